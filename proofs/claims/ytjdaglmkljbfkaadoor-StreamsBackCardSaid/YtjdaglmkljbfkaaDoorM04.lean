/- THE LAW: each record is got, and put, alone as among the others. HANDS: a reader of bytes, a layer of bits; a number of another kind through a hand. A SHEET's numbers; how many it tells; a number of another kind through a hand. A WHOLE SHEET through a hand. SHEETS OF BYTES, and bytes of sheets, by definition. Plain. SHEETS OF BYTES: the walk. BYTES OF SHEETS: by definition, and the walk. THE DOCUMENT's CHECK, and its ROOM. THE DOCUMENT's SHEETS OF BYTES: the walk. THE DOCUMENT's BYTES OF SHEETS: the walk. SHEETS AND BYTES: what is put is got, and back. Plain. THE CHAPTER's EXAMPLES. WHAT THE ROWS OF THE SHEETS ARE OPENED BY: the sets of numbers of bits; a parameter of bytes, of sheets. THE BOOK: are all its lists apart? Laid by a program of this work. THE LAWS OF THE SHEETS that ask the document's answer. THE LAW: bytes that are got are put as bytes that are got as the same. TRIANGLES OF VERTICES: vertices as lists of cells; a triangle without flags; copies. TRIANGLES OF VERTICES OF TYPE 4: what the program's strip answers. -/
import Derived.Test.YtjdaglmkljbfkaaDoorM03
namespace Go.Proofs.YtjdaglmkljbfkaaDoor
open Go Go.Gx Go.RowKit
set_option maxRecDepth 100000
theorem rget0_long (w0 : Base) (η : Heap) (hG : Sets w0) (L : Lay) (sv : Value) (bs : List Nat) (hs : SlA (St w0 η) sv 1 bs.length (byV bs)) (h0 : 65536 < bs.length) :
    CallsT Tryd.prog 12 [L.val, sv] (St w0 η) fun v A' => ∃ rv H, v = .tuple #[rv, .int .i64 (errRG L bs)] ∧ Frag 67 7 rv (outRG L bs).length (flatR (outRG L bs)) H ∧ A' = St w0 (H ++ η) := by
  obtain ⟨hbl, ad, cap, sb, so, rfl, hcap, had, hrd⟩ := hs.some
  refine CallsT.bodyM Tryd.func12 rfl rfl ?_
  simp only [Tryd.ntmps12, slotsOf, Nat.reduceAdd]
  refine TC_seq ?_
  refine TC_reg ?_
  refine TL_e rfl rfl rfl (rfl) (ET_box rfl rfl) ?_
  rintro _ _ ⟨b2, rfl, rfl⟩
  refine TL_q rfl rfl (QT_assign rfl rfl rfl) ?_
  refine TL_q rfl rfl (QT_assign rfl rfl rfl) ?_
  refine TL_nil ?_
  refine TX_then ?_
  refine TC_seq ?_
  refine TC_A (St w0 ((b2, 27, L.cells) :: η)) (fun _ h => h) ?_
  refine TC_reg ?_
  first
    | refine TL_q rfl rfl (QT_loadW 0 rfl rfl Tryd.underlying27 rfl rfl rfl YtjdaglmkljbfkaaDoorF.sz_27) ?_
    | refine TL_q rfl rfl (QT_loadW 1 rfl rfl Tryd.underlying27 rfl rfl rfl YtjdaglmkljbfkaaDoorF.sz_27) ?_
    | refine TL_q rfl rfl (QT_loadW 2 rfl rfl Tryd.underlying27 rfl rfl rfl YtjdaglmkljbfkaaDoorF.sz_27) ?_
    | refine TL_q rfl rfl (QT_loadA 0 rfl rfl Tryd.underlying27 rfl rfl rfl YtjdaglmkljbfkaaDoorF.sz_27 (fun _ => rfl)) ?_
    | refine TL_q rfl rfl (QT_loadA 1 rfl rfl Tryd.underlying27 rfl rfl rfl YtjdaglmkljbfkaaDoorF.sz_27 (fun _ => rfl)) ?_
    | refine TL_q rfl rfl (QT_loadA 2 rfl rfl Tryd.underlying27 rfl rfl rfl YtjdaglmkljbfkaaDoorF.sz_27 (fun _ => rfl)) ?_
  refine TL_cq rfl rfl rfl rfl YtjdaglmkljbfkaaDoorF.cal_26 rfl (fun _ => size_spec w0 _ hG L 0 (by decide)) ?_
  refine TL_q rfl rfl (QT_assign rfl rfl rfl) ?_
  refine TL_nil ?_
  refine TX_then ?_
  refine TC_seq ?_
  refine TC_seq ?_
  refine TC_reg ?_
  first
    | refine TL_q rfl rfl (QT_loadW 0 rfl rfl Tryd.underlying27 rfl rfl rfl YtjdaglmkljbfkaaDoorF.sz_27) ?_
    | refine TL_q rfl rfl (QT_loadW 1 rfl rfl Tryd.underlying27 rfl rfl rfl YtjdaglmkljbfkaaDoorF.sz_27) ?_
    | refine TL_q rfl rfl (QT_loadW 2 rfl rfl Tryd.underlying27 rfl rfl rfl YtjdaglmkljbfkaaDoorF.sz_27) ?_
    | refine TL_q rfl rfl (QT_loadA 0 rfl rfl Tryd.underlying27 rfl rfl rfl YtjdaglmkljbfkaaDoorF.sz_27 (fun _ => rfl)) ?_
    | refine TL_q rfl rfl (QT_loadA 1 rfl rfl Tryd.underlying27 rfl rfl rfl YtjdaglmkljbfkaaDoorF.sz_27 (fun _ => rfl)) ?_
    | refine TL_q rfl rfl (QT_loadA 2 rfl rfl Tryd.underlying27 rfl rfl rfl YtjdaglmkljbfkaaDoorF.sz_27 (fun _ => rfl)) ?_
  refine TL_cq rfl rfl rfl rfl YtjdaglmkljbfkaaDoorF.cal_27 rfl (fun _ => rcheck0_spec w0 _ hG L) ?_
  refine TL_q rfl rfl (QT_assign rfl rfl rfl) ?_
  refine TL_nil ?_
  refine TX_then ?_
  refine TC_block ?_
  refine TC_seq ?_
  refine TC_reg ?_
  refine TL_q rfl rfl (QT_move rfl rfl rfl) ?_
  refine TL_q rfl rfl (QT_neq rfl rfl rfl rfl) ?_
  refine TL_q rfl rfl (QT_assign rfl rfl rfl) ?_
  refine TL_nil ?_
  refine TX_then ?_
  first
    | refine TC_cond_dec rfl (fun h21 => ?_) (fun h21 => ?_)
    | refine TC_cond rfl (fun h21 => ?_) (fun h21 => ?_)
  ·
    refine TC_seq ?_
    refine TC_reg ?_
    refine TL_q rfl rfl (QT_move rfl rfl rfl) ?_
    refine TL_q rfl rfl (QT_assign rfl rfl rfl) ?_
    refine TL_q rfl rfl (QT_assign rfl rfl rfl) ?_
    refine TL_nil ?_
    refine TX_then ?_
    refine TC_ret ?_
    refine TX_block_ret ?_
    refine TX_then_ret ?_
    have hne : ¬ (okB L = true ∧ L.ty ≤ 5) := fun hc => h21 (by unfold errCR; rw [if_pos hc])
    have eP : errRG L bs = 4 := by unfold errRG; rw [if_neg hne]
    have eC : errCR L = 4 := by unfold errCR; rw [if_neg hne]
    exact TX_retM (.inl rfl) (res2 rfl rfl rfl) ⟨_, ⟨_, [], by rw [eP, eC], fragNoneRG eP (by decide), rfl⟩, fun _ h => h.tail⟩
  ·
    refine TC_seq ?_
    refine TC_reg ?_
    refine TL_q rfl rfl (QT_move rfl rfl rfl) ?_
    refine TL_q rfl rfl (QT_len rfl rfl Tryd.underlying28 rfl) ?_
    refine TL_q rfl rfl (QT_gtr rfl rfl rfl rfl) ?_
    refine TL_q rfl rfl (QT_assign rfl rfl rfl) ?_
    refine TL_nil ?_
    refine TX_then ?_
    refine TC_cond rfl (fun _ => ?_) (fun h => absurd (h.symm.trans (decide_eq_true (by omega))) (by decide))
    refine TC_seq ?_
    refine TC_reg ?_
    refine TL_q rfl rfl (QT_assign rfl rfl rfl) ?_
    refine TL_q rfl rfl (QT_assign rfl rfl rfl) ?_
    refine TL_nil ?_
    refine TX_then ?_
    refine TC_ret ?_
    refine TX_block_ret ?_
    refine TX_then_ret ?_
    have hc := errCR_ok (Classical.not_not.1 h21)
    have eP : errRG L bs = 3 := by unfold errRG; rw [if_pos hc, if_pos (by omega)]
    exact TX_retM (.inl rfl) (res2 rfl rfl rfl) ⟨_, ⟨_, [], by rw [eP], fragNoneRG eP (by decide), rfl⟩, fun _ h => h.tail⟩
theorem rget0_any (w0 : Base) (η : Heap) (hG : Sets w0) (L : Lay) (sv : Value) (bs : List Nat) (hs : SlA (St w0 η) sv 1 bs.length (byV bs)) (hb : ∀ c ∈ bs, c < 256) :
    CallsT Tryd.prog 12 [L.val, sv] (St w0 η) fun v A' => ∃ rv H, v = .tuple #[rv, .int .i64 (errRG L bs)] ∧ Frag 67 7 rv (outRG L bs).length (flatR (outRG L bs)) H ∧ A' = St w0 (H ++ η) := by
  by_cases h : 65536 < bs.length
  · exact rget0_long w0 η hG L sv bs hs h
  · exact rget0_spec w0 η hG L sv bs hs hb (by omega)
theorem SlA.midR {A : World → Prop} {ad : Option Addr} {n cap s l h : Nat} {cs : List Value} (hS : SlA A (.slice ad n cap) s n cs) (h1 : l ≤ h) (h2 : h ≤ n) : SlA A (.slice (if cap = l then ad else ad.map (·.add (l * s))) (h - l) (cap - l)) s (h - l) ((cs.drop (l * s)).take ((h - l) * s)) :=
  (hS.back (k := l) (by omega)).front (by omega)
theorem bytesR_part {L : Lay} {rs : List (List Nat)} (hr : ∀ r ∈ rs, RcF r) {k : Nat} {r : List Nat} (h : rs[k]? = some r) : ((bytesR L rs).drop (k * szR L)).take (szR L) = packR L r := by
  have hl := packR_len (L := L) (hr r (List.mem_of_getElem? h))
  apply List.ext_getElem?
  intro j
  rw [List.getElem?_take]
  by_cases hj : j < szR L
  · rw [if_pos hj, List.getElem?_drop, bytesR_at hr h hj]
  · rw [if_neg hj, List.getElem?_eq_none (by omega)]
theorem one_get {L : Lay} (hc : okB L = true ∧ L.ty ≤ 5) {bs : List Nat} {k : Nat} (hl : ((bs.drop (k * szR L)).take (szR L)).length = szR L) : errRG L ((bs.drop (k * szR L)).take (szR L)) = 0 ∧ outRG L ((bs.drop (k * szR L)).take (szR L)) = [recAt L bs k] := by
  have hsz := szR_bd hc.1
  have e : errRG L ((bs.drop (k * szR L)).take (szR L)) = 0 := by unfold errRG; rw [if_pos hc, if_neg (by omega), if_pos (by rw [hl]; exact Nat.mod_self _)]
  refine ⟨e, ?_⟩
  unfold outRG
  rw [if_pos e, hl, Nat.div_self (by omega)]
  show [recAt L _ 0] = _
  rw [← recAt_cut (bs := bs)]
  unfold recAt
  rw [Nat.zero_mul, List.drop_zero]
end Go.Proofs.YtjdaglmkljbfkaaDoor
namespace Go.Proofs.YtjdaglmkljbfkaaDoor
open Go Go.Gx Go.RowKit
set_option maxRecDepth 100000
/-- What is known of a hand: what it makes of a number of so many bits, and of its state. -/
structure HandOk (w0 : Base) {S : Type} (t : TypeId) (r : Value) (f : FuncId) (go : S → Nat → Nat → Nat × S) (sz : S → Nat) (Rep : S → Heap → Prop) (Ok : Heap → Prop) : Prop where
  cal : CalleeOk Tryd.prog f
  met : ∀ w, (method (Tryd.prog.types.size + Made.depth) t r "gouache/sheets.goes").run Tryd.prog w = .ok (f, r) w
  nil : ∀ w, (nilAhead (Tryd.prog.types.size + Made.depth) t r "gouache/sheets.goes").run Tryd.prog w = .ok (some false) w
  lt : ∀ s v w, v < 4294967296 → (go s v w).1 < 4294967296
  grow : ∀ s v w, sz (go s v w).2 ≤ sz s + w
  more : ∀ η b, Ok η → Ok (b :: η)
  goes : ∀ (η K : Heap) (s : S) (pb : Nat) (tt : TypeId) (cells : List Value) (off v w : Nat), Ok η → Rep s K → sz s ≤ 100000 → cells[off]? = some (.int .u32 (v : Int)) → v < 4294967296 → w ≤ 32 →
    CallsT Tryd.prog f [r, .pointer (some ⟨pb, off, none⟩), .int .i64 (w : Int)] (St w0 ((pb, tt, cells) :: (K ++ η))) fun z A' => z = .tuple #[] ∧ ∃ K', Rep (go s v w).2 K' ∧ A' = St w0 ((pb, tt, setAt cells off [.int .u32 ((go s v w).1 : Int)]) :: (K' ++ η))
/-- with others' memory between -/
theorem HandOk.deep {w0 : Base} {S : Type} {t : TypeId} {r : Value} {f : FuncId} {go : S → Nat → Nat → Nat × S} {sz : S → Nat} {Rep : S → Heap → Prop} {Ok : Heap → Prop} (h : HandOk w0 t r f go sz Rep Ok) (X η K : Heap) (s : S) (pb : Nat) (tt : TypeId) (cells : List Value) (off v w : Nat) (hO : Ok η) (hK : Rep s K) (hs : sz s ≤ 100000) (hc : cells[off]? = some (.int .u32 (v : Int))) (hv : v < 4294967296) (hw : w ≤ 32) :
    CallsT Tryd.prog f [r, .pointer (some ⟨pb, off, none⟩), .int .i64 (w : Int)] (St w0 ((pb, tt, cells) :: (X ++ (K ++ η)))) fun z A' => z = .tuple #[] ∧ ∃ K', Rep (go s v w).2 K' ∧ A' = St w0 ((pb, tt, setAt cells off [.int .u32 ((go s v w).1 : Int)]) :: (X ++ (K' ++ η))) := by
  have hO' : Ok (X ++ η) := by
    induction X with
    | nil => exact hO
    | cons b X ih => exact h.more _ b ih
  have := h.goes (X ++ η) K s pb tt cells off v w hO' hK hs hc hv hw
  refine fun w hA => (this.mono (R' := fun z A' => z = .tuple #[] ∧ ∃ K', Rep (go s v _).2 K' ∧ A' = St w0 ((pb, tt, setAt cells off [.int .u32 ((go s v _).1 : Int)]) :: (X ++ (K' ++ η)))) ?_) w (hA.cnt fun p => by simp only [List.countP_append, List.countP_cons]; omega)
  rintro z A' ⟨hz, K', hK', rfl⟩
  exact ⟨_, ⟨hz, K', hK', rfl⟩, fun w h => h.cnt fun p => by simp only [List.countP_append, List.countP_cons]; omega⟩
def RepR (rb : Nat) (bv : Value) (s : Nat × Int) (K : Heap) : Prop := K = [(rb, 100, [bv, .int .i64 (s.1 : Int), .int .i64 s.2])]
def RepL (lb rb : Nat) (s : List Bool × Int) (K : Heap) : Prop := ∃ K0, RowAt rb s.1 K0 ∧ K = (lb, 158, [.pointer (some ⟨rb, 0, none⟩), .int .i64 s.2]) :: K0
theorem getV_lt (bs : List Nat) (p n : Int) : getV bs p n < 4294967296 := by
  unfold getV
  split
  · rename_i h
    unfold getE at h
    have hn : ¬ (p < 0 ∨ n < 0 ∨ 32 < n) := fun hx => by rw [if_pos hx] at h; exact absurd h (by decide)
    refine Nat.lt_of_lt_of_le (num_lt _) (Nat.le_trans (Nat.pow_le_pow_right (by decide) (show _ ≤ 32 by rw [List.length_take]; omega)) (by decide))
  · decide
theorem set_same {l : List Value} {i : Nat} {v : Value} (h : l[i]? = some v) : l.set i v = l := by
  apply List.ext_getElem?
  intro k
  rw [List.getElem?_set]
  by_cases e : i = k
  · subst e; rw [if_pos rfl, if_pos (List.getElem?_eq_some_iff.1 h).1]; exact h.symm
  · rw [if_neg e]
theorem cells_lt {cells : List Value} {off : Nat} {v : Value} (h : cells[off]? = some v) : Nat.ble (off + 1) cells.length = true := Nat.ble_eq_true_of_le (List.getElem?_eq_some_iff.1 h).1
theorem met_R : ∃ i m, Tryd.prog.info? 98 = some i ∧ i.methods.find? (·.name == "gouache/sheets.goes") = some m ∧ m.path = #[] ∧ m.func = some (99, true) := method_of (by kernel_rfl)
theorem met_L : ∃ i m, Tryd.prog.info? 156 = some i ∧ i.methods.find? (·.name == "gouache/sheets.goes") = some m ∧ m.path = #[] ∧ m.func = some (100, true) := method_of (by kernel_rfl)
theorem reader_goes (w0 : Base) (η : Heap) (rb : Nat) (bv : Value) (bs : List Nat) (hb : ∀ c ∈ bs, c < 256) (hl : bs.length ≤ 140737488355328) (s : Nat × Int) (pb : Nat) (tt : TypeId) (cells : List Value) (off v w : Nat)
    (hO : SlA (St w0 η) bv 1 bs.length (byV bs)) (hs : s.1 ≤ 100000) (hc : cells[off]? = some (.int .u32 (v : Int))) (hw : w ≤ 32) :
    CallsT Tryd.prog 99 [.pointer (some ⟨rb, 0, none⟩), .pointer (some ⟨pb, off, none⟩), .int .i64 (w : Int)] (St w0 ((pb, tt, cells) :: (rb, 100, [bv, .int .i64 (s.1 : Int), .int .i64 s.2]) :: η)) fun z A' => z = .tuple #[] ∧ A' = St w0 ((pb, tt, setAt cells off [.int .u32 ((goR bs s v w).1 : Int)]) :: (rb, 100, [bv, .int .i64 ((goR bs s v w).2.1 : Int), .int .i64 (goR bs s v w).2.2]) :: η) := by
  have hlt := cells_lt hc
  have hset : setAt cells off [.int .u32 (v : Int)] = cells := by
    simp only [setAt]
    rw [set_same hc]
  obtain ⟨a, e⟩ := s
  have hs' : a ≤ 100000 := hs
  have hsla := hO.mono (fun w (h : St w0 ((pb, tt, cells) :: (rb, 100, [bv, .int .i64 (a : Int), .int .i64 e]) :: η) w) => h.tail.tail)
  refine CallsT.body Tryd.func99 rfl rfl ?_
  simp only [Tryd.ntmps99, slotsOf, Nat.reduceAdd]
  refine TC_seq ?_
  refine TC_seq ?_
  refine TC_reg ?_
  refine TL_q rfl rfl (QT_move rfl rfl rfl) ?_
  refine TL_q rfl rfl (QT_nilCheck rfl rfl rfl) ?_
  refine TL_q rfl rfl (QT_field rfl rfl YtjdaglmkljbfkaaDoorF.fld_100_2 rfl) ?_
  first
    | refine TL_q rfl rfl (QT_load 0 rfl rfl Tryd.underlying34 rfl rfl rfl (fun _ => rfl)) ?_
    | refine TL_q rfl rfl (QT_load 1 rfl rfl Tryd.underlying34 rfl rfl rfl (fun _ => rfl)) ?_
    | refine TL_q rfl rfl (QT_load 2 rfl rfl Tryd.underlying34 rfl rfl rfl (fun _ => rfl)) ?_
  refine TL_q rfl rfl (QT_eql rfl rfl rfl rfl) ?_
  refine TL_nil ?_
  refine TX_then ?_
  first
    | refine TC_cond_dec rfl (fun h10 => ?_) (fun h10 => ?_)
    | refine TC_cond rfl (fun h10 => ?_) (fun h10 => ?_)
  ·
    have eg : goR bs (a, e) v w = (getV bs a w, (a + w, getE bs.length a w)) := by unfold goR; rw [if_pos h10]
    rw [eg]
    refine TC_draw [(0, 0), (1, 0), (2, 0), (3, 0), (4, 0), (5, 0), (6, 0), (7, 0), (8, 0), (9, 0), (10, 0), (11, 1), (12, 0), (13, 0), (14, 0), (15, 0), (16, 1), (17, 0), (18, 0), (19, 1)] YtjdaglmkljbfkaaDoorF.mixed (by kernel_rfl) (St.calm _ _) ?_
    refine TV_q rfl rfl rfl (fun _ => QT_move rfl rfl rfl) ?_
    refine TV_q rfl rfl rfl (fun _ => QT_move rfl rfl rfl) ?_
    refine TV_q rfl rfl rfl (fun _ => QT_move rfl rfl rfl) ?_
    refine TV_q rfl rfl rfl (fun _ => QT_nilCheck rfl rfl rfl) ?_
    refine TV_q rfl rfl rfl (fun _ => QT_field rfl rfl YtjdaglmkljbfkaaDoorF.fld_100_0 rfl) ?_
    first
      | refine TV_ql rfl rfl rfl (QT_load 0 rfl rfl Tryd.underlying28 rfl rfl rfl (fun _ => rfl)) ?_
      | refine TV_ql rfl rfl rfl (QT_load 1 rfl rfl Tryd.underlying28 rfl rfl rfl (fun _ => rfl)) ?_
      | refine TV_ql rfl rfl rfl (QT_load 2 rfl rfl Tryd.underlying28 rfl rfl rfl (fun _ => rfl)) ?_
    refine TV_q rfl rfl rfl (fun _ => QT_move rfl rfl rfl) ?_
    refine TV_q rfl rfl rfl (fun _ => QT_nilCheck rfl rfl rfl) ?_
    refine TV_q rfl rfl rfl (fun _ => QT_field rfl rfl YtjdaglmkljbfkaaDoorF.fld_100_1 rfl) ?_
    first
      | refine TV_ql rfl rfl rfl (QT_load 0 rfl rfl Tryd.underlying3 rfl rfl rfl (fun _ => rfl)) ?_
      | refine TV_ql rfl rfl rfl (QT_load 1 rfl rfl Tryd.underlying3 rfl rfl rfl (fun _ => rfl)) ?_
      | refine TV_ql rfl rfl rfl (QT_load 2 rfl rfl Tryd.underlying3 rfl rfl rfl (fun _ => rfl)) ?_
    refine TV_q rfl rfl rfl (fun _ => QT_move rfl rfl rfl) ?_
    refine TV_cq rfl rfl rfl rfl rfl YtjdaglmkljbfkaaDoorF.cal_65 rfl (fun _ => get_spec w0 _ bv bs a w hsla hb ⟨by omega, by omega⟩ ⟨by omega, by omega⟩ hl) (.drop (by kernel_rfl) (.drop (by kernel_rfl) (.nil))) ?_
    refine TV_q rfl rfl rfl (fun _ => QT_move rfl rfl rfl) ?_
    refine TV_q rfl rfl rfl (fun _ => QT_extract rfl rfl rfl rfl) ?_
    refine TV_q rfl rfl rfl (fun _ => QT_extract rfl rfl rfl rfl) ?_
    refine TV_q rfl rfl rfl (fun _ => QT_nilCheck rfl rfl rfl) ?_
    refine TV_e0 rfl rfl rfl (rfl) (ET_store (vs := [.int .u32 (getV bs a w : Int)]) 0 rfl rfl rfl rfl YtjdaglmkljbfkaaDoorF.sz_60 rfl rfl hlt) ?_
    rintro _ _ ⟨rfl, rfl⟩
    refine ⟨_, .nil, ?_⟩
    refine TV_q rfl rfl rfl (fun _ => QT_nilCheck rfl rfl rfl) ?_
    refine TV_q rfl rfl rfl (fun _ => QT_field rfl rfl YtjdaglmkljbfkaaDoorF.fld_100_2 rfl) ?_
    first
      | refine TV_e0 rfl rfl rfl (rfl) (ET_store 0 rfl rfl rfl rfl YtjdaglmkljbfkaaDoorF.sz_34 rfl rfl rfl) ?_
      | refine TV_e0 rfl rfl rfl (rfl) (ET_store 1 rfl rfl rfl rfl YtjdaglmkljbfkaaDoorF.sz_34 rfl rfl rfl) ?_
      | refine TV_e0 rfl rfl rfl (rfl) (ET_store 2 rfl rfl rfl rfl YtjdaglmkljbfkaaDoorF.sz_34 rfl rfl rfl) ?_
    rintro _ _ ⟨rfl, rfl⟩
    refine ⟨_, .nil, ?_⟩
    refine TV_end ?_
    refine TX_then ?_
    refine TC_reg ?_
    refine TL_q rfl rfl (QT_move rfl rfl rfl) ?_
    refine TL_q rfl rfl (QT_nilCheck rfl rfl rfl) ?_
    refine TL_q rfl rfl (QT_field rfl rfl YtjdaglmkljbfkaaDoorF.fld_100_1 rfl) ?_
    first
      | refine TL_q rfl rfl (QT_load 0 rfl rfl Tryd.underlying3 rfl rfl rfl (fun _ => rfl)) ?_
      | refine TL_q rfl rfl (QT_load 1 rfl rfl Tryd.underlying3 rfl rfl rfl (fun _ => rfl)) ?_
      | refine TL_q rfl rfl (QT_load 2 rfl rfl Tryd.underlying3 rfl rfl rfl (fun _ => rfl)) ?_
    refine TL_q rfl rfl (QT_move rfl rfl rfl) ?_
    refine TL_q rfl rfl (QT_add rfl rfl rfl rfl (fun _ => ⟨by omega, by omega⟩)) ?_
    refine TL_q rfl rfl (QT_nilCheck rfl rfl rfl) ?_
    refine TL_q rfl rfl (QT_field rfl rfl YtjdaglmkljbfkaaDoorF.fld_100_1 rfl) ?_
    first
      | refine TL_e0 rfl rfl (rfl) (ET_store 0 rfl rfl rfl rfl YtjdaglmkljbfkaaDoorF.sz_3 rfl rfl rfl) ?_
      | refine TL_e0 rfl rfl (rfl) (ET_store 1 rfl rfl rfl rfl YtjdaglmkljbfkaaDoorF.sz_3 rfl rfl rfl) ?_
      | refine TL_e0 rfl rfl (rfl) (ET_store 2 rfl rfl rfl rfl YtjdaglmkljbfkaaDoorF.sz_3 rfl rfl rfl) ?_
    rintro _ _ ⟨rfl, rfl⟩
    refine TL_nil ?_
    exact TX_ret (.inr rfl) (res0 rfl) ⟨_, ⟨rfl, rfl⟩, fun _ h => h⟩
  ·
    have eg : goR bs (a, e) v w = (v, (a + w, e)) := by unfold goR; rw [if_neg h10]
    rw [eg]
    simp only [hset]
    refine TC_skip ?_
    refine TX_then ?_
    refine TC_reg ?_
    refine TL_q rfl rfl (QT_move rfl rfl rfl) ?_
    refine TL_q rfl rfl (QT_nilCheck rfl rfl rfl) ?_
    refine TL_q rfl rfl (QT_field rfl rfl YtjdaglmkljbfkaaDoorF.fld_100_1 rfl) ?_
    first
      | refine TL_q rfl rfl (QT_load 0 rfl rfl Tryd.underlying3 rfl rfl rfl (fun _ => rfl)) ?_
      | refine TL_q rfl rfl (QT_load 1 rfl rfl Tryd.underlying3 rfl rfl rfl (fun _ => rfl)) ?_
      | refine TL_q rfl rfl (QT_load 2 rfl rfl Tryd.underlying3 rfl rfl rfl (fun _ => rfl)) ?_
    refine TL_q rfl rfl (QT_move rfl rfl rfl) ?_
    refine TL_q rfl rfl (QT_add rfl rfl rfl rfl (fun _ => ⟨by omega, by omega⟩)) ?_
    refine TL_q rfl rfl (QT_nilCheck rfl rfl rfl) ?_
    refine TL_q rfl rfl (QT_field rfl rfl YtjdaglmkljbfkaaDoorF.fld_100_1 rfl) ?_
    first
      | refine TL_e0 rfl rfl (rfl) (ET_store 0 rfl rfl rfl rfl YtjdaglmkljbfkaaDoorF.sz_3 rfl rfl rfl) ?_
      | refine TL_e0 rfl rfl (rfl) (ET_store 1 rfl rfl rfl rfl YtjdaglmkljbfkaaDoorF.sz_3 rfl rfl rfl) ?_
      | refine TL_e0 rfl rfl (rfl) (ET_store 2 rfl rfl rfl rfl YtjdaglmkljbfkaaDoorF.sz_3 rfl rfl rfl) ?_
    rintro _ _ ⟨rfl, rfl⟩
    refine TL_nil ?_
    exact TX_ret (.inr rfl) (res0 rfl) ⟨_, ⟨rfl, rfl⟩, fun _ h => h⟩
theorem reader_ok (w0 : Base) (rb : Nat) (bv : Value) (bs : List Nat) (hb : ∀ c ∈ bs, c < 256) (hl : bs.length ≤ 140737488355328) :
    HandOk w0 98 (.pointer (some ⟨rb, 0, none⟩)) 99 (goR bs) (·.1) (RepR rb bv) (fun η => SlA (St w0 η) bv 1 bs.length (byV bs)) where
  cal := YtjdaglmkljbfkaaDoorF.cal_99
  met := by
    obtain ⟨i, m, h1, h2, h3, h4⟩ := met_R
    exact method_ptr h1 h2 h3 h4 Tryd.underlying98
  nil := by
    obtain ⟨i, m, h1, h2, h3, h4⟩ := met_R
    exact nilAhead_ptr h1 h2 h3 h4
  lt := fun s v w hv => by unfold goR; split; exact getV_lt ..; exact hv
  grow := fun s v w => by unfold goR; split <;> exact Nat.le_refl _
  more := fun η b h => h.mono fun _ h => h.tail
  goes := fun η K s pb tt cells off v w hO hK hs hc _ hw => by
    subst hK
    exact (reader_goes w0 η rb bv bs hb hl s pb tt cells off v w hO hs hc hw).mono fun z A' ⟨hz, hA⟩ => ⟨A', ⟨hz, _, rfl, hA⟩, fun _ h => h⟩
theorem layer_goes (w0 : Base) (η K0 : Heap) (lb rb : Nat) (s : List Bool × Int) (pb : Nat) (tt : TypeId) (cells : List Value) (off v w : Nat) (hK : RowAt rb s.1 K0) (hs : s.1.length ≤ 100000) (hc : cells[off]? = some (.int .u32 (v : Int))) (hv : v < 4294967296) (hw : w ≤ 32) :
    CallsT Tryd.prog 100 [.pointer (some ⟨lb, 0, none⟩), .pointer (some ⟨pb, off, none⟩), .int .i64 (w : Int)] (St w0 ((pb, tt, cells) :: (lb, 158, [.pointer (some ⟨rb, 0, none⟩), .int .i64 s.2]) :: (K0 ++ η))) fun z A' => z = .tuple #[] ∧ ∃ K', RowAt rb (goL s v w).2.1 K' ∧ A' = St w0 ((pb, tt, cells) :: (lb, 158, [.pointer (some ⟨rb, 0, none⟩), .int .i64 (goL s v w).2.2]) :: (K' ++ η)) := by
  obtain ⟨l, e⟩ := s
  have hput : CallsT Tryd.prog 76 [.pointer (some ⟨rb, 0, none⟩), .int .u32 (v : Int), .int .i64 (w : Int)] (St w0 ((pb, tt, cells) :: (lb, 158, [.pointer (some ⟨rb, 0, none⟩), .int .i64 e]) :: (K0 ++ η))) fun r A' => ∃ K', r = .int .i64 (putE l.length v w) ∧ RowAt rb (putL l v w) K' ∧ A' = St w0 ((pb, tt, cells) :: (lb, 158, [.pointer (some ⟨rb, 0, none⟩), .int .i64 e]) :: (K' ++ η)) := by
    have h := put_spec w0 ((pb, tt, cells) :: (lb, 158, [.pointer (some ⟨rb, 0, none⟩), .int .i64 e]) :: η) K0 rb l v w hK hv ⟨by omega, by omega⟩ (Nat.le_trans hs (by decide))
    refine fun w hA => (h.mono ?_) w (hA.cnt fun p => by simp only [List.countP_append, List.countP_cons]; omega)
    rintro r A' ⟨K', hr, hK', rfl⟩
    exact ⟨_, ⟨K', hr, hK', rfl⟩, fun w h => h.cnt fun p => by simp only [List.countP_append, List.countP_cons]; omega⟩
  refine CallsT.body Tryd.func100 rfl rfl ?_
  simp only [Tryd.ntmps100, slotsOf, Nat.reduceAdd]
  refine TC_seq ?_
  refine TC_reg ?_
  refine TL_q rfl rfl (QT_move rfl rfl rfl) ?_
  refine TL_q rfl rfl (QT_nilCheck rfl rfl rfl) ?_
  refine TL_q rfl rfl (QT_field rfl rfl YtjdaglmkljbfkaaDoorF.fld_158_1 rfl) ?_
  first
    | refine TL_q rfl rfl (QT_load 0 rfl rfl Tryd.underlying34 rfl rfl rfl (fun _ => rfl)) ?_
    | refine TL_q rfl rfl (QT_load 1 rfl rfl Tryd.underlying34 rfl rfl rfl (fun _ => rfl)) ?_
    | refine TL_q rfl rfl (QT_load 2 rfl rfl Tryd.underlying34 rfl rfl rfl (fun _ => rfl)) ?_
  refine TL_q rfl rfl (QT_eql rfl rfl rfl rfl) ?_
  refine TL_nil ?_
  refine TX_then ?_
  first
    | refine TC_cond_dec rfl (fun h10 => ?_) (fun h10 => ?_)
    | refine TC_cond rfl (fun h10 => ?_) (fun h10 => ?_)
  ·
    have eg : goL (l, e) v w = (v, (putL l v w, putE l.length v w)) := by unfold goL; rw [if_pos h10]
    rw [eg]
    refine TC_draw [(0, 0), (1, 0), (2, 0), (3, 0), (4, 0), (5, 0), (6, 0), (7, 0), (8, 0), (9, 1), (10, 0), (11, 0), (12, 1)] YtjdaglmkljbfkaaDoorF.mixed (by kernel_rfl) (St.calm _ _) ?_
    refine TV_q rfl rfl rfl (fun _ => QT_move rfl rfl rfl) ?_
    refine TV_q rfl rfl rfl (fun _ => QT_move rfl rfl rfl) ?_
    refine TV_q rfl rfl rfl (fun _ => QT_nilCheck rfl rfl rfl) ?_
    refine TV_q rfl rfl rfl (fun _ => QT_field rfl rfl YtjdaglmkljbfkaaDoorF.fld_158_0 rfl) ?_
    first
      | refine TV_ql rfl rfl rfl (QT_load 0 rfl rfl Tryd.underlying151 rfl rfl rfl (fun _ => rfl)) ?_
      | refine TV_ql rfl rfl rfl (QT_load 1 rfl rfl Tryd.underlying151 rfl rfl rfl (fun _ => rfl)) ?_
      | refine TV_ql rfl rfl rfl (QT_load 2 rfl rfl Tryd.underlying151 rfl rfl rfl (fun _ => rfl)) ?_
    refine TV_q rfl rfl rfl (fun _ => QT_move rfl rfl rfl) ?_
    refine TV_q rfl rfl rfl (fun _ => QT_nilCheck rfl rfl rfl) ?_
    refine TV_ql rfl rfl rfl (QT_load 0 rfl rfl Tryd.underlying60 rfl rfl rfl (fun _ => hc)) ?_
    refine TV_q rfl rfl rfl (fun _ => QT_move rfl rfl rfl) ?_
    refine TV_e rfl rfl rfl rfl (rfl) (ET_call rfl YtjdaglmkljbfkaaDoorF.cal_76 rfl (hput)) ?_
    rintro _ _ ⟨K', rfl, hK', rfl⟩
    refine ⟨_, .drop (by kernel_rfl) (.drop (by kernel_rfl) (.nil)), ?_⟩
    refine TV_q rfl rfl rfl (fun _ => QT_nilCheck rfl rfl rfl) ?_
    refine TV_q rfl rfl rfl (fun _ => QT_field rfl rfl YtjdaglmkljbfkaaDoorF.fld_158_1 rfl) ?_
    first
      | refine TV_e0 rfl rfl rfl (rfl) (ET_store 0 rfl rfl rfl rfl YtjdaglmkljbfkaaDoorF.sz_34 rfl rfl rfl) ?_
      | refine TV_e0 rfl rfl rfl (rfl) (ET_store 1 rfl rfl rfl rfl YtjdaglmkljbfkaaDoorF.sz_34 rfl rfl rfl) ?_
      | refine TV_e0 rfl rfl rfl (rfl) (ET_store 2 rfl rfl rfl rfl YtjdaglmkljbfkaaDoorF.sz_34 rfl rfl rfl) ?_
    rintro _ _ ⟨rfl, rfl⟩
    refine ⟨_, .nil, ?_⟩
    refine TV_end ?_
    exact TX_ret (.inr rfl) (res0 rfl) ⟨_, ⟨rfl, K', hK', rfl⟩, fun _ h => h⟩
  ·
    refine TC_skip ?_
    have eg : goL (l, e) v w = (v, (l, e)) := by unfold goL; rw [if_neg h10]
    rw [eg]
    exact TX_ret (.inr rfl) (res0 rfl) ⟨_, ⟨rfl, K0, hK, rfl⟩, fun _ h => h⟩
theorem putL_grow (l : List Bool) (v w : Nat) : (putL l v w).length ≤ l.length + w := by
  unfold putL
  split
  · rw [List.length_append, bitsN_len, Int.toNat_natCast]; exact Nat.le_refl _
  · omega
theorem layer_ok (w0 : Base) (lb rb : Nat) : HandOk w0 156 (.pointer (some ⟨lb, 0, none⟩)) 100 goL (·.1.length) (RepL lb rb) (fun _ => True) where
  cal := YtjdaglmkljbfkaaDoorF.cal_100
  met := by
    obtain ⟨i, m, h1, h2, h3, h4⟩ := met_L
    exact method_ptr h1 h2 h3 h4 Tryd.underlying156
  nil := by
    obtain ⟨i, m, h1, h2, h3, h4⟩ := met_L
    exact nilAhead_ptr h1 h2 h3 h4
  lt := fun s v w hv => hv
  grow := fun s v w => by unfold goL; dsimp only; split; exact putL_grow ..; exact Nat.le_add_right ..
  more := fun _ _ _ => trivial
  goes := fun η K s pb tt cells off v w _ hK hs hc hv hw => by
    obtain ⟨K0, hK0, rfl⟩ := hK
    have hset : setAt cells off [.int .u32 (v : Int)] = cells := by
      simp only [setAt]
      rw [set_same hc]
    refine (layer_goes w0 η K0 lb rb s pb tt cells off v w hK0 hs hc hv hw).mono fun z A' ⟨hz, K', hK', hA⟩ => ⟨A', ⟨hz, _, ⟨K', hK', rfl⟩, ?_⟩, fun _ h => h⟩
    rw [hA, show (goL s v w).1 = v from rfl, hset]; rfl
end Go.Proofs.YtjdaglmkljbfkaaDoor
namespace Go.Proofs.YtjdaglmkljbfkaaDoor
open Go Go.Gx Go.RowKit
set_option maxRecDepth 100000
def skK (p : Nat) : IntKind := if p = 0 then .u8 else if p < 33 then .u32 else .u16
theorem sheetK_at {p : Nat} (h : p < 49) : sheetK[p]? = some (skK p) := (show ∀ p : Fin 49, sheetK[p.1]? = some (skK p.1) by decide) ⟨p, h⟩
theorem sheetK_len : sheetK.length = 49 := by decide
def shV (xs : List Nat) : List Value := List.zipWith (fun (k : IntKind) (x : Nat) => Value.int k (x : Int)) sheetK xs
theorem shV_len {xs : List Nat} (h : xs.length = 49) : (shV xs).length = 49 := by rw [shV, List.length_zipWith, sheetK_len, h]; rfl
theorem shV_at {xs : List Nat} {p x : Nat} (hp : p < 49) (h : xs[p]? = some x) : (shV xs)[p]? = some (.int (skK p) (x : Int)) := by
  rw [shV, List.getElem?_zipWith, sheetK_at hp, h]
theorem shV_set {xs : List Nat} {p v : Nat} (hp : p < 49) : (shV xs).set p (.int (skK p) (v : Int)) = shV (xs.set p v) := by
  apply List.ext_getElem?
  intro k
  rw [List.getElem?_set]
  by_cases e : p = k
  · subst e
    rw [if_pos rfl]
    by_cases hl : p < xs.length
    · rw [if_pos (by rw [shV, List.length_zipWith, sheetK_len]; omega), shV_at (x := v) hp (by rw [List.getElem?_set, if_pos rfl, if_pos hl])]
    · rw [if_neg (by rw [shV, List.length_zipWith]; omega), shV, List.getElem?_zipWith, List.getElem?_eq_none (l := xs.set p v) (by rw [List.length_set]; omega), sheetK_at hp]
  · rw [if_neg e, shV, shV, List.getElem?_zipWith, List.getElem?_zipWith, List.getElem?_set, if_neg e]
theorem shV_mid {f k v : Nat} {a X : List Nat} (ha : a.length = k) (hx : k < X.length) (hk : k < 48) : setAt (shV (f :: (a ++ X.drop k))) (k + 1) [.int (skK (k + 1)) (v : Int)] = shV (f :: ((a ++ [v]) ++ X.drop (k + 1))) := by
  show (shV (f :: (a ++ X.drop k))).set (k + 1) _ = _
  rw [shV_set (by omega), List.drop_eq_getElem_cons hx]
  subst ha
  rw [List.set_cons_succ, List.set_append_right _ _ (Nat.le_refl _), Nat.sub_self, List.set_cons_zero, List.append_assoc]
  rfl
theorem shV_mid_at {f k x : Nat} {a X : List Nat} (ha : a.length = k) (hx : X[k]? = some x) (hk : k < 48) : (shV (f :: (a ++ X.drop k)))[k + 1]? = some (.int (skK (k + 1)) (x : Int)) := by
  refine shV_at (by omega) ?_
  rw [List.getElem?_cons_succ, List.getElem?_append_right (by omega), ha, Nat.sub_self, List.getElem?_drop]
  simpa using hx
/-- how wide a sheet's numbers are -/
def ptN (L : Lay) (f : Nat) : Nat := (ptsZ L (f : Int)).toNat
def clN (L : Lay) (f : Nat) : Nat := (colZ L (f : Int)).toNat
theorem ptN_bd (L : Lay) (f : Nat) : 1 ≤ ptN L f ∧ ptN L f ≤ 16 ∧ ptsZ L (f : Int) = (ptN L f : Int) := by
  have : 1 ≤ ptsZ L (f : Int) ∧ ptsZ L (f : Int) ≤ 16 := by unfold ptsZ; grind
  unfold ptN; omega
theorem clN_bd (L : Lay) (f : Nat) : 1 ≤ clN L f ∧ clN L f ≤ 4 ∧ colZ L (f : Int) = (clN L f : Int) := by
  have : 1 ≤ colZ L (f : Int) ∧ colZ L (f : Int) ≤ 4 := by unfold colZ; grind
  unfold clN; omega
def wPt (L : Lay) (f i : Nat) : Nat := if i < ptN L f then L.co.toNat else 0
def wCl (L : Lay) (f j : Nat) : Nat := if j / 4 < clN L f ∧ j % 4 < L.cs.toNat then L.cm.toNat else 0
def wS (L : Lay) (f : Nat) : Ws := (List.range 48).map fun p => if p < 32 then (wPt L f (p / 2), 4294967296) else (wCl L f (p - 32), 65536)
theorem wS_len (L : Lay) (f : Nat) : (wS L f).length = 48 := by simp [wS]
theorem wS_at {L : Lay} {f p : Nat} (h : p < 48) : (wS L f)[p]? = some (if p < 32 then (wPt L f (p / 2), 4294967296) else (wCl L f (p - 32), 65536)) := by
  rw [wS, List.getElem?_map, List.getElem?_range h]; rfl
theorem wS_pt {L : Lay} {f i p : Nat} (hi : i < 16) (hp : p = 2 * i ∨ p = 2 * i + 1) : (wS L f)[p]? = some (wPt L f i, 4294967296) := by
  rw [wS_at (by omega), if_pos (by omega), show p / 2 = i by omega]
theorem wS_cl {L : Lay} {f j : Nat} (hj : j < 16) : (wS L f)[32 + j]? = some (wCl L f j, 65536) := by
  rw [wS_at (by omega), if_neg (by omega), show 32 + j - 32 = j by omega]
theorem wPt_le {L : Lay} (h : okB L = true) (f i : Nat) : wPt L f i ≤ 32 := by
  have := (okB_bounds h).1
  unfold wPt; split <;> omega
theorem wCl_le {L : Lay} (h : okB L = true) (f j : Nat) : wCl L f j ≤ 16 := by
  have := (okB_bounds h).2.1
  unfold wCl; split <;> omega
theorem wS_le {L : Lay} (h : okB L = true) (f : Nat) : ∀ p ∈ wS L f, p.1 ≤ 32 := by
  intro p hp
  obtain ⟨k, _, rfl⟩ := List.mem_map.1 hp
  split
  · exact wPt_le h ..
  · exact Nat.le_trans (wCl_le h ..) (by decide)
theorem wS_m (L : Lay) (f : Nat) : ∀ p ∈ wS L f, 0 < p.2 := by
  intro p hp
  obtain ⟨k, _, rfl⟩ := List.mem_map.1 hp
  split
  · show (0 : Nat) < 4294967296; decide
  · show (0 : Nat) < 65536; decide
theorem wS_mm {L : Lay} (h : okB L = true) (f : Nat) : ∀ p ∈ wS L f, 2 ^ p.1 ≤ p.2 := by
  intro p hp
  obtain ⟨k, _, rfl⟩ := List.mem_map.1 hp
  split
  · exact Nat.le_trans (Nat.pow_le_pow_right (by decide) (wPt_le h ..)) (show 2 ^ 32 ≤ 4294967296 by decide)
  · exact Nat.le_trans (Nat.pow_le_pow_right (by decide) (wCl_le h ..)) (show 2 ^ 16 ≤ 65536 by decide)
/-- the numbers of a sheet, but its flag -/
structure Sh (X : List Nat) : Prop where
  len : X.length = 48
  pt : ∀ {p x}, X[p]? = some x → p < 32 → x < 4294967296
  cl : ∀ {p x}, X[p]? = some x → 32 ≤ p → x < 65536
theorem Und_of : ∀ {ws : Ws} {xs : List Nat}, ws.length = xs.length → (∀ (k w m x : Nat), ws[k]? = some (w, m) → xs[k]? = some x → x < m) → Und ws xs
  | [], [], _, _ => trivial
  | [], _ :: _, h, _ => by simp at h
  | _ :: _, [], h, _ => by simp at h
  | (w, m) :: ws, x :: xs, h, hk => ⟨hk 0 w m x rfl rfl, Und_of (by simpa using h) fun k w m x h1 h2 => hk (k + 1) w m x h1 h2⟩
theorem Und.at : ∀ {ws : Ws} {xs : List Nat}, Und ws xs → ∀ {k w m x : Nat}, ws[k]? = some (w, m) → xs[k]? = some x → x < m
  | [], [], _, k, w, m, x, h, _ => by simp at h
  | [], _ :: _, h, _, _, _, _, _, _ => h.elim
  | _ :: _, [], h, _, _, _, _, _, _ => h.elim
  | (w, m) :: ws, x :: xs, h, 0, _, _, _, h1, h2 => by cases h1; cases h2; exact h.1
  | (w, m) :: ws, x :: xs, h, k + 1, _, _, _, h1, h2 => Und.at h.2 h1 h2
theorem Sh.und {X : List Nat} (h : Sh X) (L : Lay) (f : Nat) : Und (wS L f) X := by
  refine Und_of (by rw [wS_len, h.len]) fun k w m x h1 h2 => ?_
  have hk : k < 48 := by rw [← h.len]; exact (List.getElem?_eq_some_iff.1 h2).1
  rw [wS_at hk] at h1
  by_cases hc : k < 32
  · rw [if_pos hc] at h1; cases h1; exact h.pt h2 hc
  · rw [if_neg hc] at h1; cases h1; exact h.cl h2 (by omega)
theorem Und.sh {X : List Nat} {L : Lay} {f : Nat} (h : Und (wS L f) X) : Sh X := by
  have hl := h.len
  rw [wS_len] at hl
  refine ⟨hl.symm, fun {p x} hx hp => ?_, fun {p x} hx hp => ?_⟩
  · exact h.at (k := p) (w := wPt L f (p / 2)) (m := 4294967296) (by rw [wS_at (by omega), if_pos hp]) hx
  · have hk : p < 48 := by rw [hl]; exact (List.getElem?_eq_some_iff.1 hx).1
    exact h.at (k := p) (w := wCl L f (p - 32)) (m := 65536) (by rw [wS_at hk, if_neg (by omega)]) hx
/-- a whole sheet through a hand -/
def thr {S : Type} (go : S → Nat → Nat → Nat × S) (L : Lay) (x0 : Nat) (X : List Nat) (s : S) : List Nat × S :=
  ((go s x0 L.fl.toNat).1 % 256 :: (run go (wS L ((go s x0 L.fl.toNat).1 % 256)) X (go s x0 L.fl.toNat).2).1, (run go (wS L ((go s x0 L.fl.toNat).1 % 256)) X (go s x0 L.fl.toNat).2).2)
theorem wrapN8 (x : Nat) : IntKind.u8.wrap (x : Int) = ((x % 256 : Nat) : Int) := by
  show (x : Int) % 256 = _
  omega
theorem wrapN16 (x : Nat) : IntKind.u16.wrap (x : Int) = ((x % 65536 : Nat) : Int) := by
  show (x : Int) % 65536 = _
  omega
theorem told_spec (w0 : Base) (η : Heap) (L : Lay) (f : Nat) (hf : f < 256) (hty : L.ty = 6 ∨ L.ty = 7) :
    CallsT Tryd.prog 69 [L.val, .int .u8 (f : Int)] (St w0 η) fun v A' => v = .tuple #[.int .i64 (ptN L f : Int), .int .i64 (clN L f : Int)] ∧ A' = St w0 η := by
  have hp := (ptN_bd L f).2.2
  have hc := (clN_bd L f).2.2
  unfold ptsZ at hp
  unfold colZ at hc
  refine CallsT.body Tryd.func69 rfl rfl ?_
  simp only [Tryd.ntmps69, slotsOf, Nat.reduceAdd]
  refine TC_seq ?_
  refine TC_reg ?_
  refine TL_e rfl rfl rfl (rfl) (ET_box rfl rfl) ?_
  rintro _ _ ⟨b2, rfl, rfl⟩
  refine TL_q rfl rfl (QT_assign rfl rfl rfl) ?_
  refine TL_q rfl rfl (QT_assign rfl rfl rfl) ?_
  refine TL_nil ?_
  refine TX_then ?_
  refine TC_seq ?_
  refine TC_reg ?_
  refine TL_q rfl rfl (QT_assign rfl rfl rfl) ?_
  refine TL_q rfl rfl (QT_assign rfl rfl rfl) ?_
  refine TL_nil ?_
  refine TX_then ?_
  refine TC_seq ?_
  refine TC_seq ?_
  refine TC_reg ?_
  refine TL_q rfl rfl (QT_move rfl rfl rfl) ?_
  refine TL_q rfl rfl (QT_eql rfl rfl rfl rfl) ?_
  refine TL_nil ?_
  refine TX_then ?_
  first
    | refine TC_cond_dec rfl (fun h7 => ?_) (fun h7 => ?_)
    | refine TC_cond rfl (fun h7 => ?_) (fun h7 => ?_)
  ·
    refine TC_reg ?_
    refine TL_q rfl rfl (QT_assign rfl rfl rfl) ?_
    refine TL_q rfl rfl (QT_assign rfl rfl rfl) ?_
    refine TL_nil ?_
    refine TX_then ?_
    refine TC_seq ?_
    refine TC_reg ?_
    refine TL_q rfl rfl (QT_move rfl rfl rfl) ?_
    refine TL_q rfl rfl (QT_field rfl rfl YtjdaglmkljbfkaaDoorF.fld_27_0 rfl) ?_
    first
      | refine TL_q rfl rfl (QT_load 0 rfl rfl Tryd.underlying3 rfl rfl rfl (fun _ => rfl)) ?_
      | refine TL_q rfl rfl (QT_load 1 rfl rfl Tryd.underlying3 rfl rfl rfl (fun _ => rfl)) ?_
      | refine TL_q rfl rfl (QT_load 2 rfl rfl Tryd.underlying3 rfl rfl rfl (fun _ => rfl)) ?_
    refine TL_q rfl rfl (QT_sub rfl rfl rfl rfl (fun _ => ⟨by omega, by omega⟩)) ?_
    refine TL_q rfl rfl (QT_mul rfl rfl rfl rfl (fun _ => ⟨by omega, by omega⟩)) ?_
    refine TL_q rfl rfl (QT_add rfl rfl rfl rfl (fun _ => ⟨by omega, by omega⟩)) ?_
    refine TL_q rfl rfl (QT_move rfl rfl rfl) ?_
    refine TL_q rfl rfl (QT_assign rfl rfl rfl) ?_
    refine TL_q rfl rfl (QT_assign rfl rfl rfl) ?_
    refine TL_nil ?_
    refine TX_then ?_
    refine TC_ret ?_
    exact TX_ret (.inl rfl) (res2 rfl rfl rfl) ⟨_, ⟨by
      have e1 : (12 : Int) + 4 * (L.ty - 6) = (ptN L f : Int) := by rw [← hp]; rcases hty with h | h <;> simp [h, h7]
      have e2 : (4 : Int) = (clN L f : Int) := by rw [← hc]; rcases hty with h | h <;> simp [h, h7]
      rw [← e1, ← e2], rfl⟩, fun _ h => h.tail⟩
  ·
    refine TC_skip ?_
    refine TX_then ?_
    refine TC_seq ?_
    refine TC_reg ?_
    refine TL_q rfl rfl (QT_move rfl rfl rfl) ?_
    refine TL_q rfl rfl (QT_field rfl rfl YtjdaglmkljbfkaaDoorF.fld_27_0 rfl) ?_
    first
      | refine TL_q rfl rfl (QT_load 0 rfl rfl Tryd.underlying3 rfl rfl rfl (fun _ => rfl)) ?_
      | refine TL_q rfl rfl (QT_load 1 rfl rfl Tryd.underlying3 rfl rfl rfl (fun _ => rfl)) ?_
      | refine TL_q rfl rfl (QT_load 2 rfl rfl Tryd.underlying3 rfl rfl rfl (fun _ => rfl)) ?_
    refine TL_q rfl rfl (QT_sub rfl rfl rfl rfl (fun _ => ⟨by omega, by omega⟩)) ?_
    refine TL_q rfl rfl (QT_mul rfl rfl rfl rfl (fun _ => ⟨by omega, by omega⟩)) ?_
    refine TL_q rfl rfl (QT_add rfl rfl rfl rfl (fun _ => ⟨by omega, by omega⟩)) ?_
    refine TL_q rfl rfl (QT_move rfl rfl rfl) ?_
    refine TL_q rfl rfl (QT_assign rfl rfl rfl) ?_
    refine TL_q rfl rfl (QT_assign rfl rfl rfl) ?_
    refine TL_nil ?_
    refine TX_then ?_
    refine TC_ret ?_
    exact TX_ret (.inl rfl) (res2 rfl rfl rfl) ⟨_, ⟨by
      have h8 : ¬ f = 0 := by omega
      have e1 : (8 : Int) + 4 * (L.ty - 6) = (ptN L f : Int) := by rw [← hp]; rcases hty with h | h <;> simp [h, h8]
      have e2 : (2 : Int) = (clN L f : Int) := by rw [← hc]; rcases hty with h | h <;> simp [h, h8]
      rw [← e1, ← e2], rfl⟩, fun _ h => h.tail⟩
theorem within_spec (w0 : Base) (A : World → Prop) (b : Bool) (m : Int) :
    CallsT Tryd.prog 70 [.bool b, .int .i64 m] A fun v A' => v = .int .i64 (if b = true then m else 0) ∧ A' = A := by
  refine CallsT.body Tryd.func70 rfl rfl ?_
  simp only [Tryd.ntmps70, slotsOf, Nat.reduceAdd]
  refine TC_seq ?_
  refine TC_reg ?_
  refine TL_q rfl rfl (QT_assign rfl rfl rfl) ?_
  refine TL_nil ?_
  refine TX_then ?_
  refine TC_seq ?_
  refine TC_seq ?_
  refine TC_reg ?_
  refine TL_q rfl rfl (QT_move rfl rfl rfl) ?_
  refine TL_nil ?_
  refine TX_then ?_
  first
    | refine TC_cond_dec rfl (fun h5 => ?_) (fun h5 => ?_)
    | refine TC_cond rfl (fun h5 => ?_) (fun h5 => ?_)
  ·
    refine TC_seq ?_
    refine TC_reg ?_
    refine TL_q rfl rfl (QT_move rfl rfl rfl) ?_
    refine TL_q rfl rfl (QT_assign rfl rfl rfl) ?_
    refine TL_nil ?_
    refine TX_then ?_
    refine TC_ret ?_
    refine TX_then_ret ?_
    exact TX_ret (.inl rfl) (res1 rfl rfl) ⟨_, ⟨by rw [if_pos h5], rfl⟩, fun _ h => h⟩
  ·
    refine TC_skip ?_
    refine TX_then ?_
    refine TC_seq ?_
    refine TC_reg ?_
    refine TL_q rfl rfl (QT_assign rfl rfl rfl) ?_
    refine TL_nil ?_
    refine TX_then ?_
    refine TC_ret ?_
    exact TX_ret (.inl rfl) (res1 rfl rfl) ⟨_, ⟨by rw [if_neg (by rw [h5]; decide)], rfl⟩, fun _ h => h⟩
section
variable {w0 : Base} {S : Type} {t : TypeId} {r : Value} {f : FuncId} {go : S → Nat → Nat → Nat × S} {sz : S → Nat} {Rep : S → Heap → Prop} {Ok : Heap → Prop}
theorem bent_uint8 (h : HandOk w0 t r f go sz Rep Ok) (X η K : Heap) (s : S) (pb : Nat) (tt : TypeId) (cells : List Value) (off v w : Nat) (hO : Ok η) (hK : Rep s K) (hs : sz s ≤ 100000) (hc : cells[off]? = some (.int .u8 (v : Int))) (hv : v < 256) (hw : w ≤ 32) :
    CallsT Tryd.prog 68 [.iface t r, .pointer (some ⟨pb, off, none⟩), .int .i64 (w : Int)] (St w0 ((pb, tt, cells) :: (X ++ (K ++ η)))) fun z A' => z = .tuple #[] ∧ ∃ K', Rep (go s v w).2 K' ∧ A' = St w0 ((pb, tt, setAt cells off [.int .u8 (((go s v w).1 % 256 : Nat) : Int)]) :: (X ++ (K' ++ η))) := by
  have hlt := cells_lt hc
  refine CallsT.body Tryd.func68 rfl rfl ?_
  simp only [Tryd.ntmps68, slotsOf, Nat.reduceAdd]
  refine TC_seq ?_
  refine TC_reg ?_
  refine TL_q rfl rfl (QT_move rfl rfl rfl) ?_
  refine TL_q rfl rfl (QT_nilCheck rfl rfl rfl) ?_
  refine TL_q rfl rfl (QT_load 0 rfl rfl Tryd.underlying5 rfl rfl rfl (fun _ => hc)) ?_
  refine TL_q rfl rfl (QT_convN rfl rfl Tryd.underlying5 Tryd.underlying60 rfl (IntWalk.u32_in _ ⟨by omega, by omega⟩)) ?_
  refine TL_e rfl rfl rfl (rfl) (ET_alloc rfl YtjdaglmkljbfkaaDoorF.zero_60) ?_
  rintro _ _ ⟨b6, rfl, rfl⟩
  first
    | refine TL_e0 rfl rfl (rfl) (ET_store 0 rfl rfl rfl rfl YtjdaglmkljbfkaaDoorF.sz_60 rfl rfl rfl) ?_
    | refine TL_e0 rfl rfl (rfl) (ET_store 1 rfl rfl rfl rfl YtjdaglmkljbfkaaDoorF.sz_60 rfl rfl rfl) ?_
    | refine TL_e0 rfl rfl (rfl) (ET_store 2 rfl rfl rfl rfl YtjdaglmkljbfkaaDoorF.sz_60 rfl rfl rfl) ?_
  rintro _ _ ⟨rfl, rfl⟩
  refine TL_nil ?_
  refine TX_then ?_
  refine TC_seq ?_
  refine TC_reg ?_
  refine TL_q rfl rfl (QT_move rfl rfl rfl) ?_
  refine TL_q rfl rfl (QT_move rfl rfl rfl) ?_
  refine TL_e rfl rfl rfl (rfl) (ET_goes (Goes.invoke rfl rfl h.met h.cal rfl) (h.deep ((pb, tt, cells) :: X) η K s b6 60 [.int .u32 (v : Int)] 0 v w hO hK hs rfl (by omega) hw)) ?_
  rintro _ _ ⟨rfl, K', hK', rfl⟩
  refine TL_nil ?_
  refine TX_then ?_
  refine TC_reg ?_
  refine TL_q rfl rfl (QT_move rfl rfl rfl) ?_
  first
    | refine TL_q rfl rfl (QT_load 0 rfl rfl Tryd.underlying60 rfl rfl rfl (fun _ => rfl)) ?_
    | refine TL_q rfl rfl (QT_load 1 rfl rfl Tryd.underlying60 rfl rfl rfl (fun _ => rfl)) ?_
    | refine TL_q rfl rfl (QT_load 2 rfl rfl Tryd.underlying60 rfl rfl rfl (fun _ => rfl)) ?_
  refine TL_q rfl rfl (QT_convN rfl rfl Tryd.underlying60 Tryd.underlying5 rfl (wrapN8 _)) ?_
  refine TL_q rfl rfl (QT_nilCheck rfl rfl rfl) ?_
  refine TL_e0 rfl rfl (rfl) (ET_store (vs := [.int .u8 (((go s v w).1 % 256 : Nat) : Int)]) 1 rfl rfl rfl rfl YtjdaglmkljbfkaaDoorF.sz_5 rfl rfl hlt) ?_
  rintro _ _ ⟨rfl, rfl⟩
  refine TL_nil ?_
  exact TX_ret (.inr rfl) (res0 rfl) ⟨_, ⟨rfl, K', hK', rfl⟩, fun _ h => h.tail⟩
theorem bent_uint16 (h : HandOk w0 t r f go sz Rep Ok) (X η K : Heap) (s : S) (pb : Nat) (tt : TypeId) (cells : List Value) (off v w : Nat) (hO : Ok η) (hK : Rep s K) (hs : sz s ≤ 100000) (hc : cells[off]? = some (.int .u16 (v : Int))) (hv : v < 65536) (hw : w ≤ 32) :
    CallsT Tryd.prog 71 [.iface t r, .pointer (some ⟨pb, off, none⟩), .int .i64 (w : Int)] (St w0 ((pb, tt, cells) :: (X ++ (K ++ η)))) fun z A' => z = .tuple #[] ∧ ∃ K', Rep (go s v w).2 K' ∧ A' = St w0 ((pb, tt, setAt cells off [.int .u16 (((go s v w).1 % 65536 : Nat) : Int)]) :: (X ++ (K' ++ η))) := by
  have hlt := cells_lt hc
  refine CallsT.body Tryd.func71 rfl rfl ?_
  simp only [Tryd.ntmps71, slotsOf, Nat.reduceAdd]
  refine TC_seq ?_
  refine TC_reg ?_
  refine TL_q rfl rfl (QT_move rfl rfl rfl) ?_
  refine TL_q rfl rfl (QT_nilCheck rfl rfl rfl) ?_
  refine TL_q rfl rfl (QT_load 0 rfl rfl Tryd.underlying63 rfl rfl rfl (fun _ => hc)) ?_
  refine TL_q rfl rfl (QT_convN rfl rfl Tryd.underlying63 Tryd.underlying60 rfl (IntWalk.u32_in _ ⟨by omega, by omega⟩)) ?_
  refine TL_e rfl rfl rfl (rfl) (ET_alloc rfl YtjdaglmkljbfkaaDoorF.zero_60) ?_
  rintro _ _ ⟨b6, rfl, rfl⟩
  first
    | refine TL_e0 rfl rfl (rfl) (ET_store 0 rfl rfl rfl rfl YtjdaglmkljbfkaaDoorF.sz_60 rfl rfl rfl) ?_
    | refine TL_e0 rfl rfl (rfl) (ET_store 1 rfl rfl rfl rfl YtjdaglmkljbfkaaDoorF.sz_60 rfl rfl rfl) ?_
    | refine TL_e0 rfl rfl (rfl) (ET_store 2 rfl rfl rfl rfl YtjdaglmkljbfkaaDoorF.sz_60 rfl rfl rfl) ?_
  rintro _ _ ⟨rfl, rfl⟩
  refine TL_nil ?_
  refine TX_then ?_
  refine TC_seq ?_
  refine TC_reg ?_
  refine TL_q rfl rfl (QT_move rfl rfl rfl) ?_
  refine TL_q rfl rfl (QT_move rfl rfl rfl) ?_
  refine TL_e rfl rfl rfl (rfl) (ET_goes (Goes.invoke rfl rfl h.met h.cal rfl) (h.deep ((pb, tt, cells) :: X) η K s b6 60 [.int .u32 (v : Int)] 0 v w hO hK hs rfl (by omega) hw)) ?_
  rintro _ _ ⟨rfl, K', hK', rfl⟩
  refine TL_nil ?_
  refine TX_then ?_
  refine TC_reg ?_
  refine TL_q rfl rfl (QT_move rfl rfl rfl) ?_
  first
    | refine TL_q rfl rfl (QT_load 0 rfl rfl Tryd.underlying60 rfl rfl rfl (fun _ => rfl)) ?_
    | refine TL_q rfl rfl (QT_load 1 rfl rfl Tryd.underlying60 rfl rfl rfl (fun _ => rfl)) ?_
    | refine TL_q rfl rfl (QT_load 2 rfl rfl Tryd.underlying60 rfl rfl rfl (fun _ => rfl)) ?_
  refine TL_q rfl rfl (QT_convN rfl rfl Tryd.underlying60 Tryd.underlying63 rfl (wrapN16 _)) ?_
  refine TL_q rfl rfl (QT_nilCheck rfl rfl rfl) ?_
  refine TL_e0 rfl rfl (rfl) (ET_store (vs := [.int .u16 (((go s v w).1 % 65536 : Nat) : Int)]) 1 rfl rfl rfl rfl YtjdaglmkljbfkaaDoorF.sz_63 rfl rfl hlt) ?_
  rintro _ _ ⟨rfl, rfl⟩
  refine TL_nil ?_
  exact TX_ret (.inr rfl) (res0 rfl) ⟨_, ⟨rfl, K', hK', rfl⟩, fun _ h => h.tail⟩
end
end Go.Proofs.YtjdaglmkljbfkaaDoor
namespace Go.Proofs.YtjdaglmkljbfkaaDoor
open Go Go.Gx Go.RowKit
set_option maxRecDepth 100000
section
variable {w0 : Base} {S : Type} {t : TypeId} {r : Value} {f : FuncId} {go : S → Nat → Nat → Nat × S} {sz : S → Nat} {Rep : S → Heap → Prop} {Ok : Heap → Prop}
theorem run_grow (hg : ∀ s v w, sz (go s v w).2 ≤ sz s + w) : ∀ (ws : Ws) (xs : List Nat) (s : S), (∀ p ∈ ws, p.1 ≤ 32) → sz (run go ws xs s).2 ≤ sz s + 32 * ws.length
  | [], _, s, _ => by unfold run; exact Nat.le_add_right ..
  | _ :: _, [], s, _ => by unfold run; exact Nat.le_add_right ..
  | (w, m) :: ws, x :: xs, s, h => by
    rw [run]
    have h1 := hg s x w
    have h2 := run_grow hg ws xs (go s x w).2 fun p hp => h p (List.mem_cons_of_mem _ hp)
    have h3 : w ≤ 32 := h _ (List.mem_cons_self ..)
    rw [List.length_cons]
    show sz (run go ws xs (go s x w).2).2 ≤ _
    omega
/-- when k of the numbers behind the flag are through -/
def rk (go : S → Nat → Nat → Nat × S) (L : Lay) (fl : Nat) (X : List Nat) (s : S) (k : Nat) : List Nat × S := run go ((wS L fl).take k) (X.take k) s
def cellsK (go : S → Nat → Nat → Nat × S) (L : Lay) (fl : Nat) (X : List Nat) (s : S) (k : Nat) : List Value := shV (fl :: ((rk go L fl X s k).1 ++ X.drop k))
theorem rk_len {L : Lay} {fl k : Nat} {X : List Nat} {s : S} (h : X.length = 48) (hk : k ≤ 48) : (rk go L fl X s k).1.length = k := by
  rw [rk, run_len (by rw [List.length_take, List.length_take, wS_len, h]), List.length_take, h]; omega
theorem rk_sz (hg : ∀ s v w, sz (go s v w).2 ≤ sz s + w) {L : Lay} (hk : okB L = true) (fl k : Nat) (X : List Nat) (s : S) : sz (rk go L fl X s k).2 ≤ sz s + 1536 := by
  have := run_grow hg ((wS L fl).take k) (X.take k) s fun p hp => wS_le hk fl p (List.mem_of_mem_take hp)
  have h2 : ((wS L fl).take k).length ≤ 48 := by rw [List.length_take, wS_len]; omega
  unfold rk
  omega
theorem rk_zero {L : Lay} {fl : Nat} {X : List Nat} {s : S} : rk go L fl X s 0 = ([], s) := by unfold rk; rw [List.take_zero]; rfl
theorem cellsK_zero {L : Lay} {fl : Nat} {X : List Nat} {s : S} : cellsK go L fl X s 0 = shV (fl :: X) := by unfold cellsK; rw [rk_zero]; rfl
theorem cellsK_all {L : Lay} {fl : Nat} {X : List Nat} {s : S} (h : X.length = 48) : cellsK go L fl X s 48 = shV (fl :: (run go (wS L fl) X s).1) := by
  unfold cellsK rk
  rw [List.take_of_length_le (by rw [wS_len]; exact Nat.le_refl _), List.take_of_length_le (by omega), List.drop_eq_nil_of_le (by omega), List.append_nil]
theorem rk_all {L : Lay} {fl : Nat} {X : List Nat} {s : S} (h : X.length = 48) : rk go L fl X s 48 = run go (wS L fl) X s := by
  unfold rk
  rw [List.take_of_length_le (by rw [wS_len]; exact Nat.le_refl _), List.take_of_length_le (by omega)]
theorem rk_step {L : Lay} {fl k w m x : Nat} {X : List Nat} {s : S} (h : X.length = 48) (hw : (wS L fl)[k]? = some (w, m)) (hx : X[k]? = some x) :
    (rk go L fl X s (k + 1)).2 = (go (rk go L fl X s k).2 x w).2 ∧ setAt (cellsK go L fl X s k) (k + 1) [.int (skK (k + 1)) (((go (rk go L fl X s k).2 x w).1 % m : Nat) : Int)] = cellsK go L fl X s (k + 1) := by
  have hk : k < X.length := (List.getElem?_eq_some_iff.1 hx).1
  have e := run_step (go := go) (s := s) hw hx
  constructor
  · show (run go ((wS L fl).take (k + 1)) (X.take (k + 1)) s).2 = _
    rw [e]; rfl
  · unfold cellsK
    rw [shV_mid (rk_len h (by omega)) hk (by omega)]
    show _ = shV (fl :: ((run go ((wS L fl).take (k + 1)) (X.take (k + 1)) s).1 ++ X.drop (k + 1)))
    rw [e]; rfl
theorem cellsK_at {L : Lay} {fl k x : Nat} {X : List Nat} {s : S} (h : X.length = 48) (hx : X[k]? = some x) : (cellsK go L fl X s k)[k + 1]? = some (.int (skK (k + 1)) (x : Int)) := by
  have hk : k < X.length := (List.getElem?_eq_some_iff.1 hx).1
  exact shV_mid_at (rk_len h (by omega)) hx (by omega)
theorem get48 {X : List Nat} (h : X.length = 48) {k : Nat} (hk : k < 48) : ∃ x, X[k]? = some x := ⟨_, List.getElem?_eq_getElem (by omega)⟩
/-- a point's number -/
theorem go_pt (h : HandOk w0 t r f go sz Rep Ok) {L : Lay} (hok : okB L = true) (Z η K : Heap) {fl : Nat} {X : List Nat} (hX : Sh X) (s : S) (sb i k off : Nat) (hi : i < 16) (hk : k = 2 * i ∨ k = 2 * i + 1) (ho : off = k + 1) (hO : Ok η) (hK : Rep (rk go L fl X s k).2 K) (hs : sz s ≤ 2000) :
    CallsT Tryd.prog f [r, .pointer (some ⟨sb, off, none⟩), .int .i64 (wPt L fl i : Int)] (St w0 ((sb, 79, cellsK go L fl X s k) :: (Z ++ (K ++ η)))) fun z A' => z = .tuple #[] ∧ ∃ K', Rep (rk go L fl X s (k + 1)).2 K' ∧ A' = St w0 ((sb, 79, cellsK go L fl X s (k + 1)) :: (Z ++ (K' ++ η))) := by
  subst ho
  obtain ⟨x, hx⟩ := get48 hX.len (show k < 48 by omega)
  have hu : skK (k + 1) = .u32 := by unfold skK; rw [if_neg (by omega), if_pos (by omega)]
  have hat := cellsK_at (go := go) (L := L) (fl := fl) (s := s) hX.len hx
  rw [hu] at hat
  have hx32 := hX.pt hx (by omega)
  have hsz := rk_sz h.grow hok fl k X s
  obtain ⟨e1, e2⟩ := rk_step (go := go) (s := s) hX.len (wS_pt (L := L) (f := fl) hi hk) hx
  rw [hu, Nat.mod_eq_of_lt (h.lt _ _ _ hx32)] at e2
  refine (h.deep Z η K _ sb 79 _ (k + 1) x (wPt L fl i) hO hK (by omega) hat hx32 (wPt_le hok ..)).mono ?_
  rintro z A' ⟨hz, K', hK', rfl⟩
  exact ⟨_, ⟨hz, K', by rw [e1]; exact hK', rfl⟩, fun w h => by rw [e2] at h; exact h⟩
/-- a colour's number -/
theorem go_cl (h : HandOk w0 t r f go sz Rep Ok) {L : Lay} (hok : okB L = true) (Z η K : Heap) {fl : Nat} {X : List Nat} (hX : Sh X) (s : S) (sb j k off : Nat) (hj : j < 16) (hk : k = 32 + j) (ho : off = k + 1) (hO : Ok η) (hK : Rep (rk go L fl X s k).2 K) (hs : sz s ≤ 2000) :
    CallsT Tryd.prog 71 [.iface t r, .pointer (some ⟨sb, off, none⟩), .int .i64 (wCl L fl j : Int)] (St w0 ((sb, 79, cellsK go L fl X s k) :: (Z ++ (K ++ η)))) fun z A' => z = .tuple #[] ∧ ∃ K', Rep (rk go L fl X s (k + 1)).2 K' ∧ A' = St w0 ((sb, 79, cellsK go L fl X s (k + 1)) :: (Z ++ (K' ++ η))) := by
  subst ho
  subst hk
  obtain ⟨x, hx⟩ := get48 hX.len (show 32 + j < 48 by omega)
  have hu : skK (32 + j + 1) = .u16 := by unfold skK; rw [if_neg (by omega), if_neg (by omega)]
  have hat := cellsK_at (go := go) (L := L) (fl := fl) (s := s) hX.len hx
  rw [hu] at hat
  have hx16 := hX.cl hx (by omega)
  have hsz := rk_sz h.grow hok fl (32 + j) X s
  obtain ⟨e1, e2⟩ := rk_step (go := go) (s := s) hX.len (wS_cl (L := L) (f := fl) hj) hx
  rw [hu] at e2
  refine (bent_uint16 h Z η K _ sb 79 _ (32 + j + 1) x (wCl L fl j) hO hK (by omega) hat hx16 (Nat.le_trans (wCl_le hok ..) (by decide))).mono ?_
  rintro z A' ⟨hz, K', hK', rfl⟩
  exact ⟨_, ⟨hz, K', by rw [e1]; exact hK', rfl⟩, fun w h => by rw [e2] at h; exact h⟩
theorem fl_set {x0 v : Nat} {X : List Nat} : setAt (shV (x0 :: X)) 0 [.int .u8 (v : Int)] = shV (v :: X) := shV_set (xs := x0 :: X) (p := 0) (by decide)
set_option maxHeartbeats 1000000 in
theorem through_spec (h : HandOk w0 t r f go sz Rep Ok) (η K : Heap) (L : Lay) (hok : okB L = true) (hty : L.ty = 6 ∨ L.ty = 7) (s : S) (sb x0 : Nat) (X : List Nat) (h0 : x0 < 256) (hX : Sh X) (hO : Ok η) (hK : Rep s K) (hs : sz s ≤ 1000) :
    CallsT Tryd.prog 36 [L.val, .pointer (some ⟨sb, 0, none⟩), .iface t r] (St w0 ((sb, 79, shV (x0 :: X)) :: (K ++ η))) fun z A' => z = .tuple #[] ∧ ∃ K', Rep (thr go L x0 X s).2 K' ∧ A' = St w0 ((sb, 79, shV (thr go L x0 X s).1) :: (K' ++ η)) := by
  have hbd := okB_bounds hok
  have hfl : (L.fl.toNat : Int) = L.fl := by have := hbd.2.2.2.2.2 (by omega); omega
  have hco : (L.co.toNat : Int) = L.co := by have := hbd.1; omega
  have hcm : (L.cm.toNat : Int) = L.cm := by have := hbd.2.1; omega
  have hcs : (L.cs.toNat : Int) = L.cs := by have := hbd.2.2.1; omega
  have hfl8 : L.fl.toNat ≤ 8 := by have := hbd.2.2.2.2.2 (by omega); omega
  have hbent := fun b => bent_uint8 h [(b, 27, L.cells)] η K s sb 79 (shV (x0 :: X)) 0 x0 L.fl.toNat hO hK (by omega) (shV_at (xs := x0 :: X) (p := 0) (by decide) rfl) h0 (by omega)
  have hg := h.grow s x0 L.fl.toNat
  generalize hgo : go s x0 L.fl.toNat = g at hbent hg
  obtain ⟨v1, s1⟩ := g
  obtain ⟨fl, hflag⟩ : ∃ fl, fl = v1 % 256 := ⟨_, rfl⟩
  have hfl256 : fl < 256 := by rw [hflag]; exact Nat.mod_lt _ (by decide)
  have ethr : thr go L x0 X s = (fl :: (run go (wS L fl) X s1).1, (run go (wS L fl) X s1).2) := by
    unfold thr; rw [hgo, hflag]
  rw [ethr]
  have hs1 : sz s1 ≤ 2000 := by simp only at hg; omega
  dsimp only at hbent
  rw [← hflag] at hbent
  simp only [fl_set, hfl] at hbent
  refine CallsT.body Tryd.func36 rfl rfl ?_
  simp only [Tryd.ntmps36, slotsOf, Nat.reduceAdd]
  refine TC_seq ?_
  refine TC_reg ?_
  refine TL_e rfl rfl rfl (rfl) (ET_box rfl rfl) ?_
  rintro _ _ ⟨b3, rfl, rfl⟩
  refine TL_nil ?_
  refine TX_then ?_
  refine TC_seq ?_
  refine TC_A (St w0 ((sb, 79, shV (x0 :: X)) :: (b3, 27, L.cells) :: (K ++ η))) (fun w h => h.swap) ?_
  refine TC_draw [(0, 0), (1, 0), (2, 0), (3, 0), (4, 0), (5, 0), (6, 1)] YtjdaglmkljbfkaaDoorF.mixed (by kernel_rfl) (St.calm _ _) ?_
  refine TV_q rfl rfl rfl (fun _ => QT_move rfl rfl rfl) ?_
  refine TV_q rfl rfl rfl (fun _ => QT_move rfl rfl rfl) ?_
  refine TV_q rfl rfl rfl (fun _ => QT_nilCheck rfl rfl rfl) ?_
  refine TV_q rfl rfl rfl (fun _ => QT_field rfl rfl YtjdaglmkljbfkaaDoorF.fld_79_0 rfl) ?_
  refine TV_q rfl rfl rfl (fun _ => QT_field rfl rfl YtjdaglmkljbfkaaDoorF.fld_27_3 rfl) ?_
  first
    | refine TV_ql rfl rfl rfl (QT_load 0 rfl rfl Tryd.underlying3 rfl rfl rfl (fun _ => rfl)) ?_
    | refine TV_ql rfl rfl rfl (QT_load 1 rfl rfl Tryd.underlying3 rfl rfl rfl (fun _ => rfl)) ?_
    | refine TV_ql rfl rfl rfl (QT_load 2 rfl rfl Tryd.underlying3 rfl rfl rfl (fun _ => rfl)) ?_
  refine TV_e rfl rfl rfl rfl (rfl) (ET_call rfl YtjdaglmkljbfkaaDoorF.cal_68 rfl (hbent b3)) ?_
  rintro _ _ ⟨rfl, K1, hK1, rfl⟩
  refine ⟨_, .drop (by kernel_rfl) (.nil), ?_⟩
  refine TV_end ?_
  refine TX_then ?_
  refine TC_seq ?_
  refine TC_draw [(0, 0), (1, 0), (2, 0), (3, 0), (4, 0), (5, 1), (6, 0), (7, 0), (8, 0), (9, 0), (10, 0)] YtjdaglmkljbfkaaDoorF.mixed (by kernel_rfl) (St.calm _ _) ?_
  first
    | refine TV_ql rfl rfl rfl (QT_loadW 0 rfl rfl Tryd.underlying27 rfl rfl rfl YtjdaglmkljbfkaaDoorF.sz_27) ?_
    | refine TV_ql rfl rfl rfl (QT_loadW 1 rfl rfl Tryd.underlying27 rfl rfl rfl YtjdaglmkljbfkaaDoorF.sz_27) ?_
    | refine TV_ql rfl rfl rfl (QT_loadW 2 rfl rfl Tryd.underlying27 rfl rfl rfl YtjdaglmkljbfkaaDoorF.sz_27) ?_
    | refine TV_ql rfl rfl rfl (QT_loadA 0 rfl rfl Tryd.underlying27 rfl rfl rfl YtjdaglmkljbfkaaDoorF.sz_27 (fun _ => rfl)) ?_
    | refine TV_ql rfl rfl rfl (QT_loadA 1 rfl rfl Tryd.underlying27 rfl rfl rfl YtjdaglmkljbfkaaDoorF.sz_27 (fun _ => rfl)) ?_
    | refine TV_ql rfl rfl rfl (QT_loadA 2 rfl rfl Tryd.underlying27 rfl rfl rfl YtjdaglmkljbfkaaDoorF.sz_27 (fun _ => rfl)) ?_
  refine TV_q rfl rfl rfl (fun _ => QT_move rfl rfl rfl) ?_
  refine TV_q rfl rfl rfl (fun _ => QT_nilCheck rfl rfl rfl) ?_
  refine TV_q rfl rfl rfl (fun _ => QT_field rfl rfl YtjdaglmkljbfkaaDoorF.fld_79_0 rfl) ?_
  refine TV_ql rfl rfl rfl (QT_load 0 rfl rfl Tryd.underlying5 rfl rfl rfl (fun _ => shV_at (xs := fl :: X) (p := 0) (by decide) rfl)) ?_
  refine TV_cq rfl rfl rfl rfl rfl YtjdaglmkljbfkaaDoorF.cal_69 rfl (fun _ => told_spec w0 _ L fl hfl256 hty) (.drop (by kernel_rfl) (.drop (by kernel_rfl) (.nil))) ?_
  refine TV_q rfl rfl rfl (fun _ => QT_move rfl rfl rfl) ?_
  refine TV_q rfl rfl rfl (fun _ => QT_extract rfl rfl rfl rfl) ?_
  refine TV_q rfl rfl rfl (fun _ => QT_extract rfl rfl rfl rfl) ?_
  refine TV_q rfl rfl rfl (fun _ => QT_assign rfl rfl rfl) ?_
  refine TV_q rfl rfl rfl (fun _ => QT_assign rfl rfl rfl) ?_
  refine TV_end ?_
  refine TX_then ?_
  refine TC_seq ?_
  refine TC_reg ?_
  refine TL_q rfl rfl (QT_assign rfl rfl rfl) ?_
  refine TL_nil ?_
  refine TX_then ?_
  refine TC_seq ?_
  refine TC_seq ?_
  refine TC_reg ?_
  refine TL_q rfl rfl (QT_move rfl rfl rfl) ?_
  refine TL_nil ?_
  refine TX_then ?_
  refine TC_block ?_
  refine TC_loop (γ := { t : Nat × Heap // t.1 ≤ 16 ∧ Rep (rk go L fl X s1 (2 * t.1)).2 t.2 }) (fun u => [(1, true, .pointer (some ⟨sb, 0, none⟩)), (2, true, .iface t r), (3, true, .pointer (some ⟨b3, 0, none⟩)), (6, true, .int .i64 (ptN L fl : Int)), (7, true, .int .i64 (clN L fl : Int)), (8, true, .func (.func 70) #[] #[]), (29, true, .int .i64 (u.1.1 : Int))]) (fun u => St w0 ((sb, 79, cellsK go L fl X s1 (2 * u.1.1)) :: (b3, 27, L.cells) :: (u.1.2 ++ η))) (fun u => 16 - u.1.1) ⟨(0, K1), by show 0 ≤ 16; decide, by show Rep (rk go L fl X s1 0).2 K1; rw [rk_zero]; exact hK1⟩ ⟨rfl, rfl, rfl, rfl, rfl, rfl, rfl, trivial⟩ (fun w h => by show St w0 ((sb, 79, cellsK go L fl X s1 0) :: (b3, 27, L.cells) :: (K1 ++ η)) w; rw [cellsK_zero]; exact h) ?_
  rintro ⟨⟨i, K2⟩, hi, hK2⟩
  dsimp only at hi hK2 ⊢
  refine TC_seq ?_
  refine TC_reg ?_
  refine TL_q rfl rfl (QT_lss rfl rfl rfl rfl) ?_
  refine TL_nil ?_
  refine TX_then ?_
  refine TC_seq ?_
  first
    | refine TC_cond_dec rfl (fun h30 => ?_) (fun h30 => ?_)
    | refine TC_cond rfl (fun h30 => ?_) (fun h30 => ?_)
  ·
    have hi16 : i < 16 := by omega
    have hwd : (if decide ((i : Int) < (ptN L fl : Int)) = true then L.co else 0) = (wPt L fl i : Int) := by
      unfold wPt
      by_cases hc : i < ptN L fl
      · rw [if_pos hc, if_pos (by simpa using hc), hco]
      · rw [if_neg hc, if_neg (by simpa using hc)]; rfl
    refine TC_skip ?_
    refine TX_then ?_
    refine TC_seq ?_
    refine TC_block ?_
    refine TC_seq ?_
    refine TC_reg ?_
    refine TL_q rfl rfl (QT_move rfl rfl rfl) ?_
    refine TL_q rfl rfl (QT_assign rfl rfl rfl) ?_
    refine TL_nil ?_
    refine TX_then ?_
    refine TC_seq ?_
    refine TC_reg ?_
    refine TL_q rfl rfl (QT_move rfl rfl rfl) ?_
    refine TL_q rfl rfl (QT_move rfl rfl rfl) ?_
    refine TL_q rfl rfl (QT_move rfl rfl rfl) ?_
    refine TL_q rfl rfl (QT_lss rfl rfl rfl rfl) ?_
    refine TL_q rfl rfl (QT_field rfl rfl YtjdaglmkljbfkaaDoorF.fld_27_1 rfl) ?_
    first
      | refine TL_q rfl rfl (QT_load 0 rfl rfl Tryd.underlying3 rfl rfl rfl (fun _ => rfl)) ?_
      | refine TL_q rfl rfl (QT_load 1 rfl rfl Tryd.underlying3 rfl rfl rfl (fun _ => rfl)) ?_
      | refine TL_q rfl rfl (QT_load 2 rfl rfl Tryd.underlying3 rfl rfl rfl (fun _ => rfl)) ?_
    refine TL_gq rfl rfl rfl (fun _ => Goes.value rfl rfl YtjdaglmkljbfkaaDoorF.cal_70 rfl) (fun _ => hwd ▸ within_spec w0 _ _ L.co) ?_
    refine TL_q rfl rfl (QT_assign rfl rfl rfl) ?_
    refine TL_nil ?_
    refine TX_then ?_
    refine TC_seq ?_
    refine TC_draw [(0, 0), (1, 0), (2, 0), (3, 0), (4, 0), (5, 0), (6, 0), (7, 0), (8, 0), (9, 0), (10, 0), (11, 1)] YtjdaglmkljbfkaaDoorF.mixed (by kernel_rfl) (St.calm _ _) ?_
    refine TV_q rfl rfl rfl (fun _ => QT_move rfl rfl rfl) ?_
    refine TV_q rfl rfl rfl (fun _ => QT_move rfl rfl rfl) ?_
    refine TV_q rfl rfl rfl (fun _ => QT_move rfl rfl rfl) ?_
    refine TV_q rfl rfl rfl (fun _ => QT_nilCheck rfl rfl rfl) ?_
    refine TV_q rfl rfl rfl (fun _ => QT_field rfl rfl YtjdaglmkljbfkaaDoorF.fld_79_1 rfl) ?_
    refine TV_q rfl rfl rfl (fun _ => QT_indexArr i rfl rfl Tryd.underlying76 YtjdaglmkljbfkaaDoorF.sz_62 rfl rfl rfl (fun _ => hi16)) ?_
    refine TV_q rfl rfl rfl (fun _ => QT_field rfl rfl YtjdaglmkljbfkaaDoorF.fld_62_0 rfl) ?_
    refine TV_q rfl rfl rfl (fun _ => QT_move rfl rfl rfl) ?_
    refine TV_q rfl rfl rfl (fun _ => QT_makeFunc rfl rfl rfl rfl) ?_
    refine TV_q rfl rfl rfl (fun _ => QT_nilCheckM rfl rfl rfl h.nil) ?_
    refine TV_q rfl rfl rfl (fun _ => QT_move rfl rfl rfl) ?_
    refine TV_e rfl rfl rfl rfl (rfl) (ET_goes (Goes.invoke rfl rfl h.met h.cal rfl) (go_pt h hok [(b3, 27, L.cells)] η K2 hX s1 sb i (2 * i) _ hi16 (.inl rfl) (by omega) hO hK2 hs1)) ?_
    rintro _ _ ⟨rfl, K3, hK3, rfl⟩
    refine ⟨_, .nil, ?_⟩
    refine TV_end ?_
    refine TX_then ?_
    refine TC_draw [(0, 0), (1, 0), (2, 0), (3, 0), (4, 0), (5, 0), (6, 0), (7, 0), (8, 0), (9, 0), (10, 0), (11, 1)] YtjdaglmkljbfkaaDoorF.mixed (by kernel_rfl) (St.calm _ _) ?_
    refine TV_q rfl rfl rfl (fun _ => QT_move rfl rfl rfl) ?_
    refine TV_q rfl rfl rfl (fun _ => QT_move rfl rfl rfl) ?_
    refine TV_q rfl rfl rfl (fun _ => QT_move rfl rfl rfl) ?_
    refine TV_q rfl rfl rfl (fun _ => QT_nilCheck rfl rfl rfl) ?_
    refine TV_q rfl rfl rfl (fun _ => QT_field rfl rfl YtjdaglmkljbfkaaDoorF.fld_79_1 rfl) ?_
    refine TV_q rfl rfl rfl (fun _ => QT_indexArr i rfl rfl Tryd.underlying76 YtjdaglmkljbfkaaDoorF.sz_62 rfl rfl rfl (fun _ => hi16)) ?_
    refine TV_q rfl rfl rfl (fun _ => QT_field rfl rfl YtjdaglmkljbfkaaDoorF.fld_62_1 rfl) ?_
    refine TV_q rfl rfl rfl (fun _ => QT_move rfl rfl rfl) ?_
    refine TV_q rfl rfl rfl (fun _ => QT_makeFunc rfl rfl rfl rfl) ?_
    refine TV_q rfl rfl rfl (fun _ => QT_nilCheckM rfl rfl rfl h.nil) ?_
    refine TV_q rfl rfl rfl (fun _ => QT_move rfl rfl rfl) ?_
    refine TV_e rfl rfl rfl rfl (rfl) (ET_goes (Goes.invoke rfl rfl h.met h.cal rfl) (go_pt h hok [(b3, 27, L.cells)] η K3 hX s1 sb i (2 * i + 1) _ hi16 (.inr rfl) (by omega) hO hK3 hs1)) ?_
    rintro _ _ ⟨rfl, K4, hK4, rfl⟩
    refine ⟨_, .nil, ?_⟩
    refine TV_end ?_
    refine TX_block_normal ?_
    refine TX_then ?_
    refine TC_reg ?_
    refine TL_q rfl rfl (QT_add rfl rfl rfl rfl (fun _ => ⟨by omega, by omega⟩)) ?_
    refine TL_q rfl rfl (QT_move rfl rfl rfl) ?_
    refine TL_nil ?_
    exact TX_round ⟨(i + 1, K4), by show i + 1 ≤ 16; omega, hK4⟩ (by show 16 - (i + 1) < 16 - i; omega) ⟨rfl, rfl, rfl, rfl, rfl, rfl, rfl, trivial⟩ (fun _ h => h)
  ·
    refine TC_exit ?_
    refine TX_then_exit ?_
    refine TX_then_exit ?_
    refine TX_block_here ?_
    refine TX_then ?_
    refine TC_seq ?_
    obtain rfl : i = 16 := by omega
    refine TC_reg ?_
    refine TL_q rfl rfl (QT_move rfl rfl rfl) ?_
    refine TL_nil ?_
    refine TX_then ?_
    refine TC_block ?_
    refine TC_loop (γ := { t : Nat × Heap // t.1 ≤ 4 ∧ Rep (rk go L fl X s1 (32 + 4 * t.1)).2 t.2 }) (fun u => [(1, true, .pointer (some ⟨sb, 0, none⟩)), (2, true, .iface t r), (3, true, .pointer (some ⟨b3, 0, none⟩)), (7, true, .int .i64 (clN L fl : Int)), (8, true, .func (.func 70) #[] #[]), (64, true, .int .i64 (u.1.1 : Int))]) (fun u => St w0 ((sb, 79, cellsK go L fl X s1 (32 + 4 * u.1.1)) :: (b3, 27, L.cells) :: (u.1.2 ++ η))) (fun u => 4 - u.1.1) ⟨(0, K2), by show 0 ≤ 4; decide, hK2⟩ ⟨rfl, rfl, rfl, rfl, rfl, rfl, trivial⟩ (fun w h => h) ?_
    rintro ⟨⟨c, K5⟩, hc, hK5⟩
    dsimp only at hc hK5 ⊢
    refine TC_seq ?_
    refine TC_reg ?_
    refine TL_q rfl rfl (QT_lss rfl rfl rfl rfl) ?_
    refine TL_nil ?_
    refine TX_then ?_
    refine TC_seq ?_
    first
      | refine TC_cond_dec rfl (fun h65 => ?_) (fun h65 => ?_)
      | refine TC_cond rfl (fun h65 => ?_) (fun h65 => ?_)
    ·
      have hc4 : c < 4 := by omega
      refine TC_skip ?_
      refine TX_then ?_
      refine TC_seq ?_
      refine TC_block ?_
      refine TC_seq ?_
      refine TC_reg ?_
      refine TL_q rfl rfl (QT_move rfl rfl rfl) ?_
      refine TL_q rfl rfl (QT_assign rfl rfl rfl) ?_
      refine TL_nil ?_
      refine TX_then ?_
      refine TC_seq ?_
      refine TC_reg ?_
      refine TL_q rfl rfl (QT_move rfl rfl rfl) ?_
      refine TL_nil ?_
      refine TX_then ?_
      refine TC_block ?_
      refine TC_loop (γ := { t : Nat × Heap // t.1 ≤ 4 ∧ Rep (rk go L fl X s1 (32 + 4 * c + t.1)).2 t.2 }) (fun u => [(1, true, .pointer (some ⟨sb, 0, none⟩)), (2, true, .iface t r), (3, true, .pointer (some ⟨b3, 0, none⟩)), (7, true, .int .i64 (clN L fl : Int)), (8, true, .func (.func 70) #[] #[]), (11, true, .int .i64 (c : Int)), (64, true, .int .i64 (c : Int)), (67, true, .int .i64 (u.1.1 : Int))]) (fun u => St w0 ((sb, 79, cellsK go L fl X s1 (32 + 4 * c + u.1.1)) :: (b3, 27, L.cells) :: (u.1.2 ++ η))) (fun u => 4 - u.1.1) ⟨(0, K5), by show 0 ≤ 4; decide, hK5⟩ ⟨rfl, rfl, rfl, rfl, rfl, rfl, rfl, rfl, trivial⟩ (fun w h => h) ?_
      rintro ⟨⟨d, K6⟩, hd, hK6⟩
      dsimp only at hd hK6 ⊢
      refine TC_seq ?_
      refine TC_reg ?_
      refine TL_q rfl rfl (QT_lss rfl rfl rfl rfl) ?_
      refine TL_nil ?_
      refine TX_then ?_
      refine TC_seq ?_
      first
        | refine TC_cond_dec rfl (fun h68 => ?_) (fun h68 => ?_)
        | refine TC_cond rfl (fun h68 => ?_) (fun h68 => ?_)
      ·
        have hd4 : d < 4 := by omega
        have hwd : (if (decide ((c : Int) < (clN L fl : Int)) && decide ((d : Int) < L.cs)) = true then L.cm else 0) = (wCl L fl (4 * c + d) : Int) := by
          unfold wCl
          rw [show (4 * c + d) / 4 = c by omega, show (4 * c + d) % 4 = d by omega]
          by_cases hq : c < clN L fl ∧ d < L.cs.toNat
          · rw [if_pos hq, if_pos (by simp only [Bool.and_eq_true, decide_eq_true_eq]; omega), hcm]
          · rw [if_neg hq, if_neg (by simp only [Bool.and_eq_true, decide_eq_true_eq]; omega)]; rfl
        refine TC_skip ?_
        refine TX_then ?_
        refine TC_seq ?_
        refine TC_block ?_
        refine TC_seq ?_
        refine TC_reg ?_
        refine TL_q rfl rfl (QT_move rfl rfl rfl) ?_
        refine TL_q rfl rfl (QT_assign rfl rfl rfl) ?_
        refine TL_nil ?_
        refine TX_then ?_
        refine TC_draw [(0, 0), (1, 0), (2, 0), (3, 0), (4, 0), (5, 0), (6, 0), (7, 0), (8, 0), (9, 0), (10, 0), (11, 0), (12, 0), (13, 0), (14, 0), (15, 0), (16, 0), (17, 0), (18, 0), (19, 0), (20, 1), (21, 1)] YtjdaglmkljbfkaaDoorF.mixed (by kernel_rfl) (St.calm _ _) ?_
        refine TV_q rfl rfl rfl (fun _ => QT_move rfl rfl rfl) ?_
        refine TV_q rfl rfl rfl (fun _ => QT_move rfl rfl rfl) ?_
        refine TV_q rfl rfl rfl (fun _ => QT_move rfl rfl rfl) ?_
        refine TV_q rfl rfl rfl (fun _ => QT_move rfl rfl rfl) ?_
        refine TV_q rfl rfl rfl (fun _ => QT_nilCheck rfl rfl rfl) ?_
        refine TV_q rfl rfl rfl (fun _ => QT_field rfl rfl YtjdaglmkljbfkaaDoorF.fld_79_2 rfl) ?_
        refine TV_q rfl rfl rfl (fun _ => QT_indexArr c rfl rfl Tryd.underlying77 YtjdaglmkljbfkaaDoorF.sz_65 rfl rfl rfl (fun _ => hc4)) ?_
        refine TV_q rfl rfl rfl (fun _ => QT_indexArr d rfl rfl Tryd.underlying65 YtjdaglmkljbfkaaDoorF.sz_63 rfl rfl rfl (fun _ => hd4)) ?_
        refine TV_q rfl rfl rfl (fun _ => QT_move rfl rfl rfl) ?_
        refine TV_q rfl rfl rfl (fun _ => QT_move rfl rfl rfl) ?_
        refine TV_q rfl rfl rfl (fun _ => QT_move rfl rfl rfl) ?_
        refine TV_q rfl rfl rfl (fun _ => QT_lss rfl rfl rfl rfl) ?_
        refine TV_q rfl rfl rfl (fun _ => QT_move rfl rfl rfl) ?_
        refine TV_q rfl rfl rfl (fun _ => QT_move rfl rfl rfl) ?_
        refine TV_q rfl rfl rfl (fun _ => QT_field rfl rfl YtjdaglmkljbfkaaDoorF.fld_27_4 rfl) ?_
        first
          | refine TV_ql rfl rfl rfl (QT_load 0 rfl rfl Tryd.underlying3 rfl rfl rfl (fun _ => rfl)) ?_
          | refine TV_ql rfl rfl rfl (QT_load 1 rfl rfl Tryd.underlying3 rfl rfl rfl (fun _ => rfl)) ?_
          | refine TV_ql rfl rfl rfl (QT_load 2 rfl rfl Tryd.underlying3 rfl rfl rfl (fun _ => rfl)) ?_
        refine TV_q rfl rfl rfl (fun _ => QT_lss rfl rfl rfl rfl) ?_
        refine TV_q rfl rfl rfl (fun _ => QT_and rfl rfl rfl rfl) ?_
        refine TV_q rfl rfl rfl (fun _ => QT_field rfl rfl YtjdaglmkljbfkaaDoorF.fld_27_2 rfl) ?_
        first
          | refine TV_ql rfl rfl rfl (QT_load 0 rfl rfl Tryd.underlying3 rfl rfl rfl (fun _ => rfl)) ?_
          | refine TV_ql rfl rfl rfl (QT_load 1 rfl rfl Tryd.underlying3 rfl rfl rfl (fun _ => rfl)) ?_
          | refine TV_ql rfl rfl rfl (QT_load 2 rfl rfl Tryd.underlying3 rfl rfl rfl (fun _ => rfl)) ?_
        refine TV_gq rfl rfl rfl rfl (fun _ => Goes.value rfl rfl YtjdaglmkljbfkaaDoorF.cal_70 rfl) (fun _ => hwd ▸ within_spec w0 _ _ L.cm) (.drop (by kernel_rfl) (.keep (by kernel_rfl) rfl (by first | exact QT_load 0 rfl rfl Tryd.underlying3 rfl rfl rfl (fun _ => rfl) | exact QT_load 1 rfl rfl Tryd.underlying3 rfl rfl rfl (fun _ => rfl) | exact QT_load 2 rfl rfl Tryd.underlying3 rfl rfl rfl (fun _ => rfl)) (.nil))) ?_
        refine TV_e rfl rfl rfl rfl (rfl) (ET_call rfl YtjdaglmkljbfkaaDoorF.cal_71 rfl (go_cl h hok [(b3, 27, L.cells)] η K6 hX s1 sb (4 * c + d) (32 + 4 * c + d) _ (by omega) (by omega) (by omega) hO hK6 hs1)) ?_
        rintro _ _ ⟨rfl, K7, hK7, rfl⟩
        refine ⟨_, .keep (by kernel_rfl) rfl (by first | exact QT_load 0 rfl rfl Tryd.underlying3 rfl rfl rfl (fun _ => rfl) | exact QT_load 1 rfl rfl Tryd.underlying3 rfl rfl rfl (fun _ => rfl) | exact QT_load 2 rfl rfl Tryd.underlying3 rfl rfl rfl (fun _ => rfl)) (.nil), ?_⟩
        refine TV_end ?_
        refine TX_block_normal ?_
        refine TX_then ?_
        refine TC_reg ?_
        refine TL_q rfl rfl (QT_add rfl rfl rfl rfl (fun _ => ⟨by omega, by omega⟩)) ?_
        refine TL_q rfl rfl (QT_move rfl rfl rfl) ?_
        refine TL_nil ?_
        exact TX_round ⟨(d + 1, K7), by show d + 1 ≤ 4; omega, hK7⟩ (by show 4 - (d + 1) < 4 - d; omega) ⟨rfl, rfl, rfl, rfl, rfl, rfl, rfl, rfl, trivial⟩ (fun _ h => h)
      ·
        refine TC_exit ?_
        refine TX_then_exit ?_
        refine TX_then_exit ?_
        refine TX_block_here ?_
        refine TX_block_normal ?_
        refine TX_then ?_
        obtain rfl : d = 4 := by omega
        refine TC_reg ?_
        refine TL_q rfl rfl (QT_add rfl rfl rfl rfl (fun _ => ⟨by omega, by omega⟩)) ?_
        refine TL_q rfl rfl (QT_move rfl rfl rfl) ?_
        refine TL_nil ?_
        exact TX_round ⟨(c + 1, K6), by show c + 1 ≤ 4; omega, hK6⟩ (by show 4 - (c + 1) < 4 - c; omega) ⟨rfl, rfl, rfl, rfl, rfl, rfl, trivial⟩ (fun _ h => h)
    ·
      refine TC_exit ?_
      refine TX_then_exit ?_
      refine TX_then_exit ?_
      refine TX_block_here ?_
      obtain rfl : c = 4 := by omega
      refine TX_ret (.inr rfl) (res0 rfl) ⟨_, ⟨rfl, K5, ?_, rfl⟩, fun w h => ?_⟩
      · have := rk_all (go := go) (L := L) (fl := fl) (s := s1) hX.len
        rw [← this]; exact hK5
      · have := cellsK_all (go := go) (L := L) (fl := fl) (s := s1) hX.len
        rw [← this]; exact (show St w0 ((sb, 79, cellsK go L fl X s1 48) :: (b3, 27, L.cells) :: (K5 ++ η)) w from h).cnt fun p => by simp only [List.countP_append, List.countP_cons]; omega
end
end Go.Proofs.YtjdaglmkljbfkaaDoor
namespace Go.Proofs.YtjdaglmkljbfkaaDoor
open Go Go.Gx
set_option maxRecDepth 100000
theorem sum_if (c : Nat → Bool) (a : Nat) : ∀ l : List Nat, (l.map fun p => if c p = true then a else 0).sum = (l.filter c).length * a
  | [] => by simp
  | p :: l => by
    rw [List.map_cons, List.sum_cons, sum_if c a l, List.filter_cons]
    by_cases h : c p = true
    · rw [if_pos h, if_pos h, List.length_cons, Nat.add_mul]; omega
    · rw [if_neg h, if_neg h]; omega
theorem cnt_pt : ∀ n : Fin 17, ((List.range 32).filter fun p => decide (p / 2 < n.1)).length = 2 * n.1 := by decide
theorem cnt_cl : ∀ c k : Fin 5, ((List.range 16).filter fun j => decide (j / 4 < c.1 ∧ j % 4 < k.1)).length = c.1 * k.1 := by decide
theorem range48 : List.range 48 = List.range 32 ++ (List.range 16).map (32 + ·) := by decide
theorem cnt_pt' {n : Nat} (h : n < 17) : ((List.range 32).filter fun p => decide (p / 2 < n)).length = 2 * n := cnt_pt ⟨n, h⟩
theorem cnt_cl' {c k : Nat} (h : c < 5) (hk : k < 5) : ((List.range 16).filter fun j => decide (j / 4 < c ∧ j % 4 < k)).length = c * k := cnt_cl ⟨c, h⟩ ⟨k, hk⟩
theorem sum_pt (l : List Nat) (n a : Nat) : (l.map fun p => if p / 2 < n then a else 0).sum = (l.filter fun p => decide (p / 2 < n)).length * a := by
  have := sum_if (fun p => decide (p / 2 < n)) a l
  simpa only [decide_eq_true_eq] using this
theorem sum_cl (l : List Nat) (c k a : Nat) : (l.map fun j => if j / 4 < c ∧ j % 4 < k then a else 0).sum = (l.filter fun j => decide (j / 4 < c ∧ j % 4 < k)).length * a := by
  have := sum_if (fun j => decide (j / 4 < c ∧ j % 4 < k)) a l
  simpa only [decide_eq_true_eq] using this
theorem tot_split (u v : Nat → Nat) : tot ((List.range 48).map fun p => if p < 32 then (u (p / 2), 4294967296) else (v (p - 32), 65536)) = ((List.range 32).map fun p => u (p / 2)).sum + ((List.range 16).map v).sum := by
  unfold tot
  rw [range48, List.map_append, List.map_append, List.sum_append]
  refine congr (congrArg HAdd.hAdd (congrArg List.sum ?_)) (congrArg List.sum ?_)
  · rw [List.map_map]
    exact List.map_congr_left fun p hp => by
      have : p < 32 := List.mem_range.1 hp
      simp [this]
  · rw [List.map_map, List.map_map]
    exact List.map_congr_left fun p hp => by
      have : ¬ 32 + p < 32 := by omega
      simp [this]
theorem tot_wS {L : Lay} (h : okB L = true) (f : Nat) : tot (wS L f) = 2 * ptN L f * L.co.toNat + clN L f * L.cs.toNat * L.cm.toNat := by
  have hp := ptN_bd L f
  have hc := clN_bd L f
  have hs := (okB_bounds h).2.2.1
  have e1 := (sum_pt (List.range 32) (ptN L f) L.co.toNat).trans (congrArg (· * L.co.toNat) (cnt_pt' (by omega)))
  have e2 := (sum_cl (List.range 16) (clN L f) L.cs.toNat L.cm.toNat).trans (congrArg (· * L.cm.toNat) (cnt_cl' (by omega) (by omega)))
  refine (tot_split (fun i => wPt L f i) (fun j => wCl L f j)).trans ?_
  unfold wPt wCl
  rw [e1, e2]
/-- a record's numbers: its flag, and the others -/
def fS (L : Lay) (f : Nat) : Ws := (L.fl.toNat, 256) :: wS L f
def szN (L : Lay) (f : Nat) : Nat := (tot (fS L f) + 7) / 8
theorem fS_le {L : Lay} (h : okB L = true) (hty : L.ty = 6 ∨ L.ty = 7) (f : Nat) : ∀ p ∈ fS L f, p.1 ≤ 32 := by
  intro p hp
  have := (okB_bounds h).2.2.2.2.2 (by omega)
  rcases List.mem_cons.1 hp with rfl | hp
  · show L.fl.toNat ≤ 32; omega
  · exact wS_le h f p hp
theorem fS_mm {L : Lay} (h : okB L = true) (hty : L.ty = 6 ∨ L.ty = 7) (f : Nat) : ∀ p ∈ fS L f, 2 ^ p.1 ≤ p.2 := by
  intro p hp
  have := (okB_bounds h).2.2.2.2.2 (by omega)
  rcases List.mem_cons.1 hp with rfl | hp
  · exact Nat.le_trans (Nat.pow_le_pow_right (by decide) (show L.fl.toNat ≤ 8 by omega)) (show 2 ^ 8 ≤ 256 by decide)
  · exact wS_mm h f p hp
theorem bits_eq {L : Lay} (h : okB L = true) (hty : L.ty = 6 ∨ L.ty = 7) (f : Nat) : bitsZ L (f : Int) = (tot (fS L f) : Int) := by
  have hp := (ptN_bd L f).2.2
  have hc := (clN_bd L f).2.2
  have hb := okB_bounds h
  have hfl := hb.2.2.2.2.2 (by omega)
  have e1 : L.fl = (L.fl.toNat : Int) := by omega
  have e2 : L.co = (L.co.toNat : Int) := by omega
  have e3 : L.cm = (L.cm.toNat : Int) := by omega
  have e4 : L.cs = (L.cs.toNat : Int) := by omega
  rw [fS, tot_cons, tot_wS h f]
  unfold bitsZ flb
  rw [if_neg (by omega), hp, hc]
  show L.fl + _ = _
  rw [Int.natCast_add, Int.natCast_add, Int.natCast_mul, Int.natCast_mul, Int.natCast_mul, Int.natCast_mul, ← e1, ← e2, ← e3, ← e4]
  rfl
theorem size_eq {L : Lay} (h : okB L = true) (hty : L.ty = 6 ∨ L.ty = 7) (f : Nat) : sizeZ L (f : Int) = (szN L f : Int) := by
  unfold sizeZ szN
  rw [if_pos h, bits_eq h hty]
  omega
theorem tot_le {k : Nat} : ∀ {ws : Ws}, (∀ p ∈ ws, p.1 ≤ k) → tot ws ≤ k * ws.length
  | [], _ => by simp [tot]
  | p :: ws, h => by
    rw [tot_cons, List.length_cons, Nat.mul_add]
    have := h p (List.mem_cons_self ..)
    have := tot_le fun q hq => h q (List.mem_cons_of_mem _ hq)
    omega
theorem fS_tot {L : Lay} (h : okB L = true) (hty : L.ty = 6 ∨ L.ty = 7) (f : Nat) : L.fl.toNat ≤ tot (fS L f) ∧ tot (fS L f) ≤ 1568 ∧ 2 ≤ tot (fS L f) ∧ L.fl.toNat ≤ 8 := by
  have h1 := tot_le (fS_le h hty f)
  have h2 : (fS L f).length = 49 := by rw [fS, List.length_cons, wS_len]
  have hfl := (okB_bounds h).2.2.2.2.2 (by omega)
  rw [h2] at h1
  have h3 : tot (fS L f) = L.fl.toNat + tot (wS L f) := tot_cons _ _
  omega
theorem szN_pos {L : Lay} (h : okB L = true) (hty : L.ty = 6 ∨ L.ty = 7) (f : Nat) : 1 ≤ szN L f ∧ szN L f ≤ 196 := by
  have := fS_tot h hty f
  unfold szN; omega
def zer : List Nat := List.replicate 48 0
theorem zer_sh : Sh zer := ⟨rfl, fun {p x} h _ => by
    have : x = 0 := List.eq_of_mem_replicate (List.mem_of_getElem? h)
    omega, fun {p x} h _ => by
    have : x = 0 := List.eq_of_mem_replicate (List.mem_of_getElem? h)
    omega⟩
/-- a sheet's numbers -/
def ShF (ys : List Nat) : Prop := ∃ x0 X, ys = x0 :: X ∧ x0 < 256 ∧ Sh X
def flB (L : Lay) (l : List Bool) : Nat := num (l.take L.fl.toNat) % 256
def dcS (L : Lay) (l : List Bool) : List Nat := dec (fS L (flB L l)) l
theorem dcS_eq (L : Lay) (l : List Bool) : dcS L l = flB L l :: dec (wS L (flB L l)) (l.drop L.fl.toNat) := rfl
theorem dcS_shf (L : Lay) (l : List Bool) : ShF (dcS L l) := ⟨_, _, dcS_eq L l, Nat.mod_lt _ (by decide), Und.sh (L := L) (f := flB L l) (dec_und _ (wS_m L _))⟩
/-- a whole sheet read -/
theorem thr_R_ok {L : Lay} (h : okB L = true) (hty : L.ty = 6 ∨ L.ty = 7) {bs : List Nat} (hl : tot (fS L (flB L (byB bs))) ≤ 8 * bs.length) :
    thr (goR bs) L 0 zer (0, 0) = (dcS L (byB bs), (tot (fS L (flB L (byB bs))), 0)) := by
  have ht := fS_tot h hty (flB L (byB bs))
  have h3 : tot (fS L (flB L (byB bs))) = L.fl.toNat + tot (wS L (flB L (byB bs))) := tot_cons _ _
  have e0 : goR bs ((0 : Nat), (0 : Int)) 0 L.fl.toNat = (num ((byB bs).take L.fl.toNat), (L.fl.toNat, 0)) := by
    rw [goR_ok (by omega) (by omega), List.drop_zero, Nat.zero_add]
  have e1 := run_goR_ok (bs := bs) (a := L.fl.toNat) (wS_le h (flB L (byB bs))) (by omega) (show (wS L (flB L (byB bs))).length = zer.length by rw [wS_len]; rfl)
  unfold thr
  rw [e0]
  show (flB L (byB bs) :: (run (goR bs) (wS L (flB L (byB bs))) zer (L.fl.toNat, 0)).1, (run (goR bs) (wS L (flB L (byB bs))) zer (L.fl.toNat, 0)).2) = _
  rw [e1, dcS_eq, h3]
theorem thr_R_bad {L : Lay} (h : okB L = true) (hty : L.ty = 6 ∨ L.ty = 7) {bs : List Nat} (h0 : bs ≠ []) (hl : 8 * bs.length < tot (fS L (flB L (byB bs)))) :
    (thr (goR bs) L 0 zer (0, 0)).2.2 ≠ 0 := by
  have ht := fS_tot h hty (flB L (byB bs))
  have hb : 0 < bs.length := List.length_pos_iff.2 h0
  have h3 : tot (fS L (flB L (byB bs))) = L.fl.toNat + tot (wS L (flB L (byB bs))) := tot_cons _ _
  have e0 : goR bs ((0 : Nat), (0 : Int)) 0 L.fl.toNat = (num ((byB bs).take L.fl.toNat), (L.fl.toNat, 0)) := by
    rw [goR_ok (by omega) (by omega), List.drop_zero, Nat.zero_add]
  unfold thr
  rw [e0]
  show (run (goR bs) (wS L (flB L (byB bs))) zer (L.fl.toNat, 0)).2.2 ≠ 0
  exact run_goR_bad (wS_le h _) (by omega) (by omega) (by rw [wS_len]; rfl)
/-- a whole sheet laid -/
theorem thr_L {L : Lay} (h : okB L = true) (hty : L.ty = 6 ∨ L.ty = 7) {x0 : Nat} {X : List Nat} (h0 : x0 < 256) (hX : Sh X) :
    (thr goL L x0 X ([], 0)).1 = x0 :: X ∧ (if fitB (fS L x0) (x0 :: X) = true then (thr goL L x0 X ([], 0)).2 = (enc (fS L x0) (x0 :: X), 0) else (thr goL L x0 X ([], 0)).2.2 = 1) := by
  have ht := fS_tot h hty x0
  have h3 : tot (fS L x0) = L.fl.toNat + tot (wS L x0) := tot_cons _ _
  have em : (goL (([] : List Bool), (0 : Int)) x0 L.fl.toNat).1 % 256 = x0 := Nat.mod_eq_of_lt h0
  have hlen : (wS L x0).length = X.length := by rw [wS_len, hX.len]
  constructor
  · unfold thr; rw [em, run_goL_vals (hX.und L x0)]
  · unfold thr
    rw [em]
    by_cases hc : x0 < 2 ^ L.fl.toNat
    · rw [goL_ok (by omega) hc (by show 0 + _ ≤ _; omega), List.nil_append]
      have hbl : (bitsN L.fl.toNat x0).length = L.fl.toNat := bitsN_len ..
      have ef : fitB (fS L x0) (x0 :: X) = fitB (wS L x0) X := by rw [fS, fitB]; simp [hc]
      rw [ef]
      split
      · rename_i hf
        exact run_goL_ok (wS_le h _) (by omega) hlen hf
      · rename_i hf
        exact run_goL_bad (wS_le h _) (by omega) hlen (by simpa using hf)
    · have ef : fitB (fS L x0) (x0 :: X) = false := by rw [fS, fitB]; simp [hc]
      rw [ef, if_neg (by decide)]
      have e : (goL (([] : List Bool), (0 : Int)) x0 L.fl.toNat).2 = (putL [] x0 L.fl.toNat, 1) := by
        unfold goL; rw [if_pos rfl, putE_one hc]
      rw [e]
      show (run goL (wS L x0) X (putL [] x0 L.fl.toNat, 1)).2.2 = 1
      rw [run_goL_err (show (1 : Int) ≠ 0 by decide)]
/-- sheets of bytes -/
def gets (L : Lay) : Nat → List Nat → Option (List (List Nat))
  | 0, bs => if bs = [] then some [] else none
  | k + 1, bs => if bs = [] then some [] else
      if 8 * bs.length < tot (fS L (flB L (byB bs))) then none else (gets L k (bs.drop (szN L (flB L (byB bs))))).map (dcS L (byB bs) :: ·)
theorem gets_fuel {L : Lay} (h : okB L = true) (hty : L.ty = 6 ∨ L.ty = 7) : ∀ (k m : Nat) (bs : List Nat), bs.length ≤ k → bs.length ≤ m → gets L k bs = gets L m bs
  | 0, 0, _, _, _ => rfl
  | 0, m + 1, bs, hk, _ => by
    obtain rfl : bs = [] := List.length_eq_zero_iff.1 (by omega)
    simp [gets]
  | k + 1, 0, bs, _, hm => by
    obtain rfl : bs = [] := List.length_eq_zero_iff.1 (by omega)
    simp [gets]
  | k + 1, m + 1, bs, hk, hm => by
    rw [gets, gets]
    have h1 := (szN_pos h hty (flB L (byB bs))).1
    by_cases h0 : bs = []
    · rw [if_pos h0, if_pos h0]
    · have : 0 < bs.length := List.length_pos_iff.2 h0
      rw [if_neg h0, if_neg h0, gets_fuel h hty k m _ (by rw [List.length_drop]; omega) (by rw [List.length_drop]; omega)]
def getS (L : Lay) (bs : List Nat) : Option (List (List Nat)) := gets L bs.length bs
theorem getS_nil (L : Lay) : getS L [] = some [] := rfl
theorem getS_cons {L : Lay} (h : okB L = true) (hty : L.ty = 6 ∨ L.ty = 7) {bs : List Nat} (h0 : bs ≠ []) :
    getS L bs = if 8 * bs.length < tot (fS L (flB L (byB bs))) then none else (getS L (bs.drop (szN L (flB L (byB bs))))).map (dcS L (byB bs) :: ·) := by
  unfold getS
  have hb : 0 < bs.length := List.length_pos_iff.2 h0
  obtain ⟨k, hk⟩ : ∃ k, bs.length = k + 1 := ⟨bs.length - 1, by omega⟩
  have h1 := (szN_pos h hty (flB L (byB bs))).1
  rw [gets_fuel h hty (bs.drop (szN L (flB L (byB bs)))).length k _ (Nat.le_refl _) (by rw [List.length_drop]; omega)]
  rw [show gets L bs.length bs = gets L (k + 1) bs by rw [hk], gets, if_neg h0]
def errG (L : Lay) (bs : List Nat) : Int := if okB L = true ∧ 6 ≤ L.ty then (if 65536 < bs.length then 3 else match getS L bs with | none => 5 | some _ => 0) else 4
def outG (L : Lay) (bs : List Nat) : List (List Nat) := if errG L bs = 0 then (getS L bs).getD [] else []
theorem ty67 {L : Lay} (h : okB L = true ∧ 6 ≤ L.ty) : L.ty = 6 ∨ L.ty = 7 := by
  have := (okB_bounds h.1).2.2.2.1
  omega
theorem errG_ok {L : Lay} {bs : List Nat} (h : okB L = true ∧ 6 ≤ L.ty) (hl : ¬ 65536 < bs.length) {ys : List (List Nat)} (hy : getS L bs = some ys) : errG L bs = 0 ∧ outG L bs = ys := by
  have e : errG L bs = 0 := by unfold errG; rw [if_pos h, if_neg hl, hy]
  exact ⟨e, by unfold outG; rw [if_pos e, hy]; rfl⟩
theorem errG_none {L : Lay} {bs : List Nat} (h : okB L = true ∧ 6 ≤ L.ty) (hl : ¬ 65536 < bs.length) (hy : getS L bs = none) : errG L bs = 5 := by
  unfold errG; rw [if_pos h, if_neg hl, hy]
theorem outG_bad {L : Lay} {bs : List Nat} (h : errG L bs ≠ 0) : outG L bs = [] := by unfold outG; rw [if_neg h]
theorem gets_shf {L : Lay} : ∀ (k : Nat) (bs : List Nat) (ys : List (List Nat)), gets L k bs = some ys → ∀ y ∈ ys, ShF y
  | 0, bs, ys, h, y, hy => by
    unfold gets at h
    split at h
    · cases h; exact absurd hy List.not_mem_nil
    · cases h
  | k + 1, bs, ys, h, y, hy => by
    rw [gets] at h
    split at h
    · cases h; exact absurd hy List.not_mem_nil
    · split at h
      · cases h
      · obtain ⟨zs, hz, rfl⟩ := Option.map_eq_some_iff.1 h
        rcases List.mem_cons.1 hy with rfl | hy
        · exact dcS_shf ..
        · exact gets_shf k _ zs hz y hy
theorem outG_shf {L : Lay} {bs : List Nat} : ∀ y ∈ outG L bs, ShF y := by
  intro y hy
  unfold outG at hy
  split at hy
  · cases hg : getS L bs with
    | none => rw [hg] at hy; exact absurd hy List.not_mem_nil
    | some ys => rw [hg] at hy; exact gets_shf _ _ _ hg y hy
  · exact absurd hy List.not_mem_nil
theorem ShF.len {y : List Nat} (h : ShF y) : y.length = 49 := by
  obtain ⟨x0, X, rfl, _, hX⟩ := h
  rw [List.length_cons, hX.len]
theorem zip_ints : ∀ {ks : List IntKind} {xs : List Nat}, ks.length = xs.length → (∀ (p : Nat) (k : IntKind) (x : Nat), ks[p]? = some k → xs[p]? = some x → (Lit.int k (x : Int)).wf = true) → Ints ks (List.zipWith (fun (k : IntKind) (x : Nat) => Value.int k (x : Int)) ks xs)
  | [], [], _, _ => .nil
  | [], _ :: _, h, _ => by simp at h
  | _ :: _, [], h, _ => by simp at h
  | k :: ks, x :: xs, h, hw => .cons (hw 0 k x rfl rfl) (zip_ints (by simpa using h) fun p k x h1 h2 => hw (p + 1) k x h1 h2)
theorem shV_ints {y : List Nat} (h : ShF y) : Ints sheetK (shV y) := by
  have hl := h.len
  obtain ⟨x0, X, rfl, h0, hX⟩ := h
  refine zip_ints (by rw [sheetK_len, hl]) fun p k x hk hv => ?_
  have hp : p < 49 := by rw [← sheetK_len]; exact (List.getElem?_eq_some_iff.1 hk).1
  rw [sheetK_at hp] at hk
  cases hk
  unfold skK
  cases p with
  | zero =>
    cases hv
    have h1 : IntKind.u8.min = 0 := rfl
    have h2 : IntKind.u8.max = 255 := rfl
    simp only [if_pos, Lit.wf, Bool.and_eq_true, decide_eq_true_eq]
    omega
  | succ p =>
    rw [List.getElem?_cons_succ] at hv
    rw [if_neg (by omega)]
    by_cases hc : p + 1 < 33
    · have := hX.pt hv (by omega)
      have h1 : IntKind.u32.min = 0 := rfl
      have h2 : IntKind.u32.max = 4294967295 := rfl
      rw [if_pos hc]
      simp only [Lit.wf, Bool.and_eq_true, decide_eq_true_eq]
      omega
    · have := hX.cl hv (by omega)
      have h1 : IntKind.u16.min = 0 := rfl
      have h2 : IntKind.u16.max = 65535 := rfl
      rw [if_neg hc]
      simp only [Lit.wf, Bool.and_eq_true, decide_eq_true_eq]
      omega
end Go.Proofs.YtjdaglmkljbfkaaDoor
namespace Go.Proofs.YtjdaglmkljbfkaaDoor
open Go Go.Gx Go.RowKit
set_option maxRecDepth 100000
def errC (L : Lay) : Int := if okB L = true ∧ 6 ≤ L.ty then 0 else 4
theorem scheck_spec (w0 : Base) (η : Heap) (hG : Sets w0) (L : Lay) :
    CallsT Tryd.prog 35 [L.val] (St w0 η) fun v A' => v = .int .i64 (errC L) ∧ A' = St w0 η := by
  refine CallsT.body Tryd.func35 rfl rfl ?_
  simp only [Tryd.ntmps35, slotsOf, Nat.reduceAdd]
  refine TC_seq ?_
  refine TC_reg ?_
  refine TL_e rfl rfl rfl (rfl) (ET_box rfl rfl) ?_
  rintro _ _ ⟨b1, rfl, rfl⟩
  refine TL_q rfl rfl (QT_assign rfl rfl rfl) ?_
  refine TL_nil ?_
  refine TX_then ?_
  refine TC_seq ?_
  refine TC_seq ?_
  refine TC_reg ?_
  first
    | refine TL_q rfl rfl (QT_loadW 0 rfl rfl Tryd.underlying27 rfl rfl rfl YtjdaglmkljbfkaaDoorF.sz_27) ?_
    | refine TL_q rfl rfl (QT_loadW 1 rfl rfl Tryd.underlying27 rfl rfl rfl YtjdaglmkljbfkaaDoorF.sz_27) ?_
    | refine TL_q rfl rfl (QT_loadW 2 rfl rfl Tryd.underlying27 rfl rfl rfl YtjdaglmkljbfkaaDoorF.sz_27) ?_
    | refine TL_q rfl rfl (QT_loadA 0 rfl rfl Tryd.underlying27 rfl rfl rfl YtjdaglmkljbfkaaDoorF.sz_27 (fun _ => rfl)) ?_
    | refine TL_q rfl rfl (QT_loadA 1 rfl rfl Tryd.underlying27 rfl rfl rfl YtjdaglmkljbfkaaDoorF.sz_27 (fun _ => rfl)) ?_
    | refine TL_q rfl rfl (QT_loadA 2 rfl rfl Tryd.underlying27 rfl rfl rfl YtjdaglmkljbfkaaDoorF.sz_27 (fun _ => rfl)) ?_
  refine TL_cq rfl rfl rfl rfl YtjdaglmkljbfkaaDoorF.cal_10 rfl (fun _ => check_spec w0 _ hG L) ?_
  refine TL_q rfl rfl (QT_neq rfl rfl rfl rfl) ?_
  refine TL_q rfl rfl (QT_move rfl rfl rfl) ?_
  refine TL_q rfl rfl (QT_field rfl rfl YtjdaglmkljbfkaaDoorF.fld_27_0 rfl) ?_
  first
    | refine TL_q rfl rfl (QT_load 0 rfl rfl Tryd.underlying3 rfl rfl rfl (fun _ => rfl)) ?_
    | refine TL_q rfl rfl (QT_load 1 rfl rfl Tryd.underlying3 rfl rfl rfl (fun _ => rfl)) ?_
    | refine TL_q rfl rfl (QT_load 2 rfl rfl Tryd.underlying3 rfl rfl rfl (fun _ => rfl)) ?_
  refine TL_q rfl rfl (QT_lss rfl rfl rfl rfl) ?_
  refine TL_q rfl rfl (QT_or rfl rfl rfl rfl) ?_
  refine TL_nil ?_
  refine TX_then ?_
  first
    | refine TC_cond_dec rfl (fun h10 => ?_) (fun h10 => ?_)
    | refine TC_cond rfl (fun h10 => ?_) (fun h10 => ?_)
  ·
    refine TC_seq ?_
    refine TC_reg ?_
    refine TL_q rfl rfl (QT_assign rfl rfl rfl) ?_
    refine TL_nil ?_
    refine TX_then ?_
    refine TC_ret ?_
    refine TX_then_ret ?_
    refine TX_ret (.inl rfl) (res1 rfl rfl) ⟨_, ⟨?_, rfl⟩, fun _ h => h.tail⟩
    have e : errC L = 4 := by
      simp only [Bool.or_eq_true, decide_eq_true_eq] at h10
      unfold errC
      rw [if_neg]
      rintro ⟨h1, h2⟩
      unfold errOf at h10
      rw [if_pos h1] at h10
      omega
    rw [e]
  ·
    refine TC_skip ?_
    refine TX_then ?_
    refine TC_seq ?_
    refine TC_reg ?_
    refine TL_q rfl rfl (QT_assign rfl rfl rfl) ?_
    refine TL_nil ?_
    refine TX_then ?_
    refine TC_ret ?_
    refine TX_ret (.inl rfl) (res1 rfl rfl) ⟨_, ⟨?_, rfl⟩, fun _ h => h.tail⟩
    have e : errC L = 0 := by
      simp only [Bool.or_eq_false_iff, decide_eq_false_iff_not] at h10
      unfold errC
      rw [if_pos]
      unfold errOf at h10
      refine ⟨?_, by omega⟩
      by_cases h1 : okB L = true
      · exact h1
      · rw [if_neg h1] at h10; omega
    rw [e]
theorem clipS_spec (w0 : Base) (η H : Heap) (v : Value) (n : Nat) (xs : List Value) (hF : Frag 79 49 v n xs H) :
    CallsT Tryd.prog 37 [v] (St w0 (H ++ η)) fun v A' => Frag 79 49 v n xs H ∧ A' = St w0 (H ++ η) := by
  obtain ⟨hl, hF⟩ := hF
  rcases hF with ⟨rfl, rfl, rfl⟩ | ⟨b, cap, rest, rfl, hc, hlen, rfl⟩
  · refine CallsT.body Tryd.func37 rfl rfl ?_
    simp only [Tryd.ntmps37, slotsOf, Nat.reduceAdd]
    refine TC_seq ?_
    refine TC_reg ?_
    refine TL_q rfl rfl (QT_assign rfl rfl rfl) ?_
    refine TL_nil ?_
    refine TX_then ?_
    refine TC_seq ?_
    refine TC_reg ?_
    refine TL_q rfl rfl (QT_move rfl rfl rfl) ?_
    refine TL_q rfl rfl (QT_move rfl rfl rfl) ?_
    refine TL_q rfl rfl (QT_len rfl rfl Tryd.underlying31 rfl) ?_
    refine TL_q rfl rfl (QT_move rfl rfl rfl) ?_
    refine TL_q rfl rfl (QT_len rfl rfl Tryd.underlying31 rfl) ?_
    refine TL_q rfl rfl (QT_slcHM (0) (0) rfl rfl rfl Tryd.underlying31 YtjdaglmkljbfkaaDoorF.sz_79 rfl rfl rfl rfl rfl (fun _ => ⟨by omega, by omega⟩)) ?_
    refine TL_q rfl rfl (QT_assign rfl rfl rfl) ?_
    refine TL_nil ?_
    refine TX_then ?_
    refine TC_ret ?_
    exact TX_ret (.inl rfl) (res1 rfl rfl) ⟨_, ⟨⟨hl, .inl ⟨rfl, rfl, rfl⟩⟩, rfl⟩, fun _ h => h⟩
  · refine CallsT.body Tryd.func37 rfl rfl ?_
    simp only [Tryd.ntmps37, slotsOf, Nat.reduceAdd]
    refine TC_seq ?_
    refine TC_reg ?_
    refine TL_q rfl rfl (QT_assign rfl rfl rfl) ?_
    refine TL_nil ?_
    refine TX_then ?_
    refine TC_seq ?_
    refine TC_reg ?_
    refine TL_q rfl rfl (QT_move rfl rfl rfl) ?_
    refine TL_q rfl rfl (QT_move rfl rfl rfl) ?_
    refine TL_q rfl rfl (QT_len rfl rfl Tryd.underlying31 rfl) ?_
    refine TL_q rfl rfl (QT_move rfl rfl rfl) ?_
    refine TL_q rfl rfl (QT_len rfl rfl Tryd.underlying31 rfl) ?_
    refine TL_q rfl rfl (QT_slcHM (n) (n) rfl rfl rfl Tryd.underlying31 YtjdaglmkljbfkaaDoorF.sz_79 rfl rfl rfl rfl rfl (fun _ => ⟨by omega, by omega⟩)) ?_
    refine TL_q rfl rfl (QT_assign rfl rfl rfl) ?_
    refine TL_nil ?_
    refine TX_then ?_
    refine TC_ret ?_
    exact TX_ret (.inl rfl) (res1 rfl rfl) ⟨_, ⟨⟨hl, .inr ⟨b, n, rest, rfl, ⟨Nat.le_refl _, by omega⟩, Nat.le_trans (Nat.mul_le_mul_right _ hc.1) hlen, rfl⟩⟩, rfl⟩, fun _ h => h⟩
/-- sheets, one behind the other, in memory -/
def flatS (ys : List (List Nat)) : List Value := (ys.map shV).flatten
theorem flatS_snoc (ys : List (List Nat)) (y : List Nat) : flatS (ys ++ [y]) = flatS ys ++ shV y := by simp [flatS]
theorem errC_ok {L : Lay} (h : errC L = 0) : okB L = true ∧ 6 ≤ L.ty := by
  unfold errC at h
  split at h
  · assumption
  · exact absurd h (by decide)
theorem errC_bad {L : Lay} (h : errC L ≠ 0) : errC L = 4 ∧ ∀ bs, errG L bs = 4 := by
  unfold errC at h ⊢
  split at h
  · exact absurd rfl h
  · rename_i hn
    rw [if_neg hn]
    exact ⟨rfl, fun bs => by unfold errG; rw [if_neg hn]⟩
theorem fragNone {L : Lay} {bs : List Nat} {e : Int} (h : errG L bs = e) (h0 : e ≠ 0) : Frag 79 49 (.slice none 0 0) (outG L bs).length (flatS (outG L bs)) [] := by
  rw [outG_bad (by rw [h]; exact h0)]
  exact Frag.nil _ _
set_option maxHeartbeats 1000000 in
theorem sget_spec (w0 : Base) (η : Heap) (hG : Sets w0) (L : Lay) (bv : Value) (bs : List Nat) (hs : SlA (St w0 η) bv 1 bs.length (byV bs)) (hb : ∀ c ∈ bs, c < 256) (hl : bs.length ≤ 140737488355328) :
    CallsT Tryd.prog 16 [L.val, bv] (St w0 η) fun v A' => ∃ sv H, v = .tuple #[sv, .int .i64 (errG L bs)] ∧ Frag 79 49 sv (outG L bs).length (flatS (outG L bs)) H ∧ A' = St w0 (H ++ η) := by
  have hs0 := hs
  obtain ⟨_, ad, cap, rfl, hcap, _⟩ := hs
  refine CallsT.body Tryd.func16 rfl rfl ?_
  simp only [Tryd.ntmps16, slotsOf, Nat.reduceAdd]
  refine TC_seq ?_
  refine TC_reg ?_
  refine TL_e rfl rfl rfl (rfl) (ET_box rfl rfl) ?_
  rintro _ _ ⟨b2, rfl, rfl⟩
  refine TL_q rfl rfl (QT_assign rfl rfl rfl) ?_
  refine TL_q rfl rfl (QT_assign rfl rfl rfl) ?_
  refine TL_nil ?_
  refine TX_then ?_
  refine TC_seq ?_
  refine TC_seq ?_
  refine TC_reg ?_
  first
    | refine TL_q rfl rfl (QT_loadW 0 rfl rfl Tryd.underlying27 rfl rfl rfl YtjdaglmkljbfkaaDoorF.sz_27) ?_
    | refine TL_q rfl rfl (QT_loadW 1 rfl rfl Tryd.underlying27 rfl rfl rfl YtjdaglmkljbfkaaDoorF.sz_27) ?_
    | refine TL_q rfl rfl (QT_loadW 2 rfl rfl Tryd.underlying27 rfl rfl rfl YtjdaglmkljbfkaaDoorF.sz_27) ?_
    | refine TL_q rfl rfl (QT_loadA 0 rfl rfl Tryd.underlying27 rfl rfl rfl YtjdaglmkljbfkaaDoorF.sz_27 (fun _ => rfl)) ?_
    | refine TL_q rfl rfl (QT_loadA 1 rfl rfl Tryd.underlying27 rfl rfl rfl YtjdaglmkljbfkaaDoorF.sz_27 (fun _ => rfl)) ?_
    | refine TL_q rfl rfl (QT_loadA 2 rfl rfl Tryd.underlying27 rfl rfl rfl YtjdaglmkljbfkaaDoorF.sz_27 (fun _ => rfl)) ?_
  refine TL_cq rfl rfl rfl rfl YtjdaglmkljbfkaaDoorF.cal_35 rfl (fun _ => scheck_spec w0 _ hG L) ?_
  refine TL_q rfl rfl (QT_assign rfl rfl rfl) ?_
  refine TL_nil ?_
  refine TX_then ?_
  refine TC_seq ?_
  refine TC_reg ?_
  refine TL_q rfl rfl (QT_move rfl rfl rfl) ?_
  refine TL_q rfl rfl (QT_neq rfl rfl rfl rfl) ?_
  refine TL_nil ?_
  refine TX_then ?_
  first
    | refine TC_cond_dec rfl (fun h13 => ?_) (fun h13 => ?_)
    | refine TC_cond rfl (fun h13 => ?_) (fun h13 => ?_)
  ·
    refine TC_seq ?_
    refine TC_reg ?_
    refine TL_q rfl rfl (QT_move rfl rfl rfl) ?_
    refine TL_q rfl rfl (QT_assign rfl rfl rfl) ?_
    refine TL_q rfl rfl (QT_assign rfl rfl rfl) ?_
    refine TL_nil ?_
    refine TX_then ?_
    refine TC_ret ?_
    refine TX_then_ret ?_
    obtain ⟨e4, eG⟩ := errC_bad h13
    exact TX_ret (.inl rfl) (res2 rfl rfl rfl) ⟨_, ⟨_, [], by rw [eG bs, e4], fragNone (eG bs) (by decide), rfl⟩, fun _ h => h.tail⟩
  ·
    refine TC_skip ?_
    refine TX_then ?_
    refine TC_seq ?_
    refine TC_seq ?_
    refine TC_reg ?_
    refine TL_q rfl rfl (QT_move rfl rfl rfl) ?_
    refine TL_q rfl rfl (QT_len rfl rfl Tryd.underlying28 rfl) ?_
    refine TL_q rfl rfl (QT_gtr rfl rfl rfl rfl) ?_
    refine TL_nil ?_
    refine TX_then ?_
    first
      | refine TC_cond_dec rfl (fun h17 => ?_) (fun h17 => ?_)
      | refine TC_cond rfl (fun h17 => ?_) (fun h17 => ?_)
    ·
      refine TC_seq ?_
      refine TC_reg ?_
      refine TL_q rfl rfl (QT_assign rfl rfl rfl) ?_
      refine TL_q rfl rfl (QT_assign rfl rfl rfl) ?_
      refine TL_nil ?_
      refine TX_then ?_
      refine TC_ret ?_
      refine TX_then_ret ?_
      have hc := errC_ok (Classical.not_not.1 h13)
      have e3 : errG L bs = 3 := by unfold errG; rw [if_pos hc, if_pos (by omega)]
      exact TX_ret (.inl rfl) (res2 rfl rfl rfl) ⟨_, ⟨_, [], by rw [e3], fragNone e3 (by decide), rfl⟩, fun _ h => h.tail⟩
    ·
      refine TC_skip ?_
      refine TX_then ?_
      refine TC_seq ?_
      have hc := errC_ok (Classical.not_not.1 h13)
      have hty := ty67 hc
      have hle : ¬ 65536 < bs.length := by omega
      refine TC_reg ?_
      refine TL_q rfl rfl (QT_assign rfl rfl rfl) ?_
      refine TL_nil ?_
      refine TX_then ?_
      refine TC_seq ?_
      refine TC_block ?_
      refine TC_loop (γ := { t : List (List Nat) × List Nat × Value × Value × Heap // SlA (St w0 η) t.2.2.1 1 t.2.1.length (byV t.2.1) ∧ Frag 79 49 t.2.2.2.1 t.1.length (flatS t.1) t.2.2.2.2 ∧ (∀ c ∈ t.2.1, c < 256) ∧ getS L bs = (getS L t.2.1).map (t.1 ++ ·) ∧ t.1.length + t.2.1.length ≤ bs.length }) (fun u => [(1, true, u.1.2.2.1), (2, true, .pointer (some ⟨b2, 0, none⟩)), (7, true, u.1.2.2.2.1)]) (fun u => St w0 ((b2, 27, L.cells) :: (u.1.2.2.2.2 ++ η))) (fun u => u.1.2.1.length) ⟨([], bs, .slice ad bs.length cap, .slice none 0 0, []), hs0, Frag.nil _ _, hb, by rw [show (fun x : List (List Nat) => [] ++ x) = id from rfl, Option.map_id]; rfl, by show 0 + bs.length ≤ _; omega⟩ ⟨rfl, rfl, rfl, trivial⟩ (fun _ h => h) ?_
      rintro ⟨⟨acc, rest, rv, sv, H⟩, hR, hF, hrb, hgs, hal⟩
      dsimp only at hR hF hrb hgs hal ⊢
      have hR0 := hR
      obtain ⟨_, rad, rcap, rfl, hrc, _⟩ := hR
      refine TC_seq ?_
      refine TC_seq ?_
      refine TC_reg ?_
      refine TL_q rfl rfl (QT_move rfl rfl rfl) ?_
      refine TL_q rfl rfl (QT_len rfl rfl Tryd.underlying28 rfl) ?_
      refine TL_q rfl rfl (QT_gtr rfl rfl rfl rfl) ?_
      refine TL_nil ?_
      refine TX_then ?_
      first
        | refine TC_cond_dec rfl (fun h20 => ?_) (fun h20 => ?_)
        | refine TC_cond rfl (fun h20 => ?_) (fun h20 => ?_)
      ·
        have hr0 : rest ≠ [] := by intro h; subst h; simp at h20
        have hrl : 0 < rest.length := List.length_pos_iff.2 hr0
        refine TC_skip ?_
        refine TX_then ?_
        refine TC_block ?_
        refine TC_seq ?_
        refine TC_reg ?_
        refine TL_e rfl rfl rfl (rfl) (ET_alloc rfl YtjdaglmkljbfkaaDoorF.zero_79) ?_
        rintro _ _ ⟨b8, rfl, rfl⟩
        refine TL_nil ?_
        refine TX_then ?_
        refine TC_seq ?_
        refine TC_reg ?_
        refine TL_q rfl rfl (QT_move rfl rfl rfl) ?_
        refine TL_q rfl rfl (QT_build rfl rfl YtjdaglmkljbfkaaDoorF.zero_100 YtjdaglmkljbfkaaDoorF.pl_100 rfl rfl rfl) ?_
        refine TL_e rfl rfl rfl (rfl) (ET_box rfl rfl) ?_
        rintro _ _ ⟨b23, rfl, rfl⟩
        refine TL_q rfl rfl (QT_assign rfl rfl rfl) ?_
        refine TL_nil ?_
        refine TX_then ?_
        refine TC_seq ?_
        refine TC_A (St w0 ((b8, 79, shV (0 :: zer)) :: (b23, 100, [.slice rad rest.length rcap, .int .i64 0, .int .i64 0]) :: (b2, 27, L.cells) :: (H ++ η))) (fun w h => h.swap) ?_
        obtain ⟨G, hGd⟩ : ∃ G, G = thr (goR rest) L 0 zer (0, 0) := ⟨_, rfl⟩
        have hok2 := thr_R_ok (bs := rest) hc.1 hty
        have hbad2 := thr_R_bad (bs := rest) hc.1 hty hr0
        have hthr := through_spec (reader_ok w0 b23 (.slice rad rest.length rcap) rest hrb (by omega)) ((b2, 27, L.cells) :: (H ++ η)) [(b23, 100, [.slice rad rest.length rcap, .int .i64 0, .int .i64 0])] L hc.1 hty (0, 0) b8 0 zer (by decide) zer_sh (hR0.mono fun w h => h.tail.app_right) rfl (by decide)
        rw [← hGd] at hok2 hbad2 hthr
        obtain ⟨ys, at', e⟩ := G
        have hcons := getS_cons hc.1 hty hr0
        have hk1 := (szN_pos hc.1 hty (flB L (byB rest))).1
        have hszL := fun A => size_spec w0 A hG L (flB L (byB rest) : Int) (Int.natCast_nonneg _)
        rw [size_eq hc.1 hty] at hszL
        have hnT : szN L (flB L (byB rest)) = (tot (fS L (flB L (byB rest))) + 7) / 8 := rfl
        have hdc := dcS_eq L (byB rest)
        have hshf := dcS_shf L (byB rest)
        obtain ⟨D, hD⟩ : ∃ D, D = dcS L (byB rest) := ⟨_, rfl⟩
        obtain ⟨fl, hfl⟩ : ∃ fl, fl = flB L (byB rest) := ⟨_, rfl⟩
        rw [← hD, ← hfl] at hdc hok2
        rw [← hD] at hshf
        rw [← hfl] at hbad2 hk1 hszL hnT
        rw [← hD, ← hfl] at hcons
        obtain ⟨T, hT⟩ : ∃ T, T = tot (fS L fl) := ⟨_, rfl⟩
        obtain ⟨m, hm⟩ : ∃ m, m = szN L fl := ⟨_, rfl⟩
        rw [← hm, ← hT] at hcons hnT
        rw [← hT] at hok2 hbad2
        rw [← hm] at hk1 hszL
        clear hT hm hD
        refine TC_reg ?_
        refine TL_q rfl rfl (QT_loadW (cs := L.cells) 2 rfl rfl Tryd.underlying27 rfl rfl rfl YtjdaglmkljbfkaaDoorF.sz_27) ?_
        refine TL_q rfl rfl (QT_move rfl rfl rfl) ?_
        refine TL_q rfl rfl (QT_makeIface rfl rfl Tryd.underlying98 rfl rfl) ?_
        refine TL_e rfl rfl rfl (rfl) (ET_call rfl YtjdaglmkljbfkaaDoorF.cal_36 rfl (hthr)) ?_
        rintro _ _ ⟨rfl, K', hK', rfl⟩
        refine TL_nil ?_
        refine TX_then ?_
        refine TC_seq ?_
        refine TC_seq ?_
        have hK2 : K' = [(b23, 100, [.slice rad rest.length rcap, .int .i64 (at' : Int), .int .i64 e])] := hK'
        subst hK2
        refine TC_reg ?_
        refine TL_q rfl rfl (QT_move rfl rfl rfl) ?_
        refine TL_q rfl rfl (QT_nilCheck rfl rfl rfl) ?_
        refine TL_q rfl rfl (QT_field rfl rfl YtjdaglmkljbfkaaDoorF.fld_100_2 rfl) ?_
        refine TL_q rfl rfl (QT_load (v := .int .i64 e) 1 rfl rfl Tryd.underlying34 rfl rfl rfl (fun _ => rfl)) ?_
        refine TL_q rfl rfl (QT_neq rfl rfl rfl rfl) ?_
        refine TL_nil ?_
        refine TX_then ?_
        first
          | refine TC_cond_dec rfl (fun h32 => ?_) (fun h32 => ?_)
          | refine TC_cond rfl (fun h32 => ?_) (fun h32 => ?_)
        ·
          refine TC_seq ?_
          refine TC_reg ?_
          refine TL_q rfl rfl (QT_assign rfl rfl rfl) ?_
          refine TL_q rfl rfl (QT_assign rfl rfl rfl) ?_
          refine TL_nil ?_
          refine TX_then ?_
          refine TC_ret ?_
          refine TX_then_ret ?_
          refine TX_block_ret ?_
          refine TX_then_ret ?_
          refine TX_block_ret ?_
          refine TX_then_ret ?_
          have hbad : 8 * rest.length < T := by
            refine Nat.lt_of_not_le fun hc2 => ?_
            have := hok2 hc2
            simp only [Prod.mk.injEq] at this
            exact h32 this.2.2
          have e5 : errG L bs = 5 := errG_none hc hle (by rw [hgs, hcons, if_pos hbad]; rfl)
          exact TX_ret (.inl rfl) (res2 rfl rfl rfl) ⟨_, ⟨_, [], by rw [e5], fragNone e5 (by decide), rfl⟩, fun _ h => h.tail.tail.tail.app_right⟩
        ·
          refine TC_skip ?_
          refine TX_then ?_
          have hfit : ¬ 8 * rest.length < T := fun hb2 => hbad2 hb2 (Classical.not_not.1 h32)
          obtain ⟨rfl, rfl, rfl⟩ : ys = D ∧ at' = T ∧ e = 0 := by
            have := hok2 (Nat.le_of_not_lt hfit)
            simp only [Prod.mk.injEq] at this
            exact ⟨this.1, this.2.1, this.2.2⟩
          have hyl : (shV ys).length = 49 := shV_len hshf.len
          have hys : Sz Tryd.prog 79 (shV ys).length := by rw [hyl]; exact YtjdaglmkljbfkaaDoorF.sz_79
          have hyi := shV_ints hshf
          have hyf : (shV ys)[0]? = some (.int .u8 (fl : Int)) := shV_at (xs := ys) (p := 0) (by decide) (by rw [hdc]; rfl)
          have hk0 : m ≤ rest.length := by omega
          have hR2 := hR0.back hk0
          rw [byV_drop] at hR2
          have hdl : (rest.drop m).length = rest.length - m := List.length_drop ..
          refine TC_draw [(0, 0), (1, 0), (4, 0), (5, 0), (6, 0), (7, 0), (2, 1), (3, 1), (8, 1), (9, 0), (10, 0), (11, 0)] YtjdaglmkljbfkaaDoorF.mixed (by kernel_rfl) (St.calm _ _) ?_
          refine TV_q rfl rfl rfl (fun _ => QT_move rfl rfl rfl) ?_
          first
            | refine TV_ql rfl rfl rfl (QT_loadW (cs := shV ys) 0 rfl rfl Tryd.underlying79 rfl rfl rfl hys) ?_
            | refine TV_ql rfl rfl rfl (QT_loadW (cs := shV ys) 1 rfl rfl Tryd.underlying79 rfl rfl rfl hys) ?_
          refine TV_q rfl rfl rfl (fun _ => QT_move rfl rfl rfl) ?_
          first
            | refine TV_ql rfl rfl rfl (QT_loadW (cs := L.cells) 2 rfl rfl Tryd.underlying27 rfl rfl rfl YtjdaglmkljbfkaaDoorF.sz_27) ?_
            | refine TV_ql rfl rfl rfl (QT_loadW (cs := L.cells) 3 rfl rfl Tryd.underlying27 rfl rfl rfl YtjdaglmkljbfkaaDoorF.sz_27) ?_
          refine TV_q rfl rfl rfl (fun _ => QT_field rfl rfl YtjdaglmkljbfkaaDoorF.fld_79_0 rfl) ?_
          first
            | refine TV_ql rfl rfl rfl (QT_load (v := .int .u8 (fl : Int)) 0 rfl rfl Tryd.underlying5 rfl rfl rfl (fun _ => hyf)) ?_
            | refine TV_ql rfl rfl rfl (QT_load (v := .int .u8 (fl : Int)) 1 rfl rfl Tryd.underlying5 rfl rfl rfl (fun _ => hyf)) ?_
          refine TV_e rfl rfl rfl rfl (rfl) (ET_buildN [_] rfl Tryd.underlying31 YtjdaglmkljbfkaaDoorF.sz_79 YtjdaglmkljbfkaaDoorF.zero_79 rfl rfl rfl (fun v hv => by cases List.mem_singleton.1 hv; exact hyl)) ?_
          rintro _ _ ⟨b35, rfl, rfl⟩
          refine ⟨_, .keep (by kernel_rfl) rfl (by first | exact QT_load (v := .int .u8 (fl : Int)) 0 rfl rfl Tryd.underlying5 rfl rfl rfl (fun _ => hyf) | exact QT_load (v := .int .u8 (fl : Int)) 1 rfl rfl Tryd.underlying5 rfl rfl rfl (fun _ => hyf)) (.keep (by kernel_rfl) rfl (by first | exact QT_loadW (cs := L.cells) 2 rfl rfl Tryd.underlying27 rfl rfl rfl YtjdaglmkljbfkaaDoorF.sz_27 | exact QT_loadW (cs := L.cells) 3 rfl rfl Tryd.underlying27 rfl rfl rfl YtjdaglmkljbfkaaDoorF.sz_27) (.drop (by kernel_rfl) (.nil))), ?_⟩
          refine TV_e rfl rfl rfl rfl (rfl) (ET_appendL (L := [_, _, _, _]) rfl Tryd.underlying31 el_Sheet rfl rfl hF (fun _ h => h) (SlA.own (n := 1) (xs := shV ys) 0 rfl (by rw [List.drop_zero, List.take_of_length_le (by simp [Value.cells, hyl])]; simp [Value.cells]) (by simp [Value.cells, hyl]) (by omega)) hyi.oneCell (by omega) (by omega)) ?_
          rintro sv2 _ ⟨H', hF', rfl⟩
          refine ⟨_, .keep (by kernel_rfl) rfl (by first | exact QT_load (v := .int .u8 (fl : Int)) 0 rfl rfl Tryd.underlying5 rfl rfl rfl (fun _ => hyf) | exact QT_load (v := .int .u8 (fl : Int)) 1 rfl rfl Tryd.underlying5 rfl rfl rfl (fun _ => hyf)) (.keep (by kernel_rfl) rfl (by first | exact QT_loadW (cs := L.cells) 2 rfl rfl Tryd.underlying27 rfl rfl rfl YtjdaglmkljbfkaaDoorF.sz_27 | exact QT_loadW (cs := L.cells) 3 rfl rfl Tryd.underlying27 rfl rfl rfl YtjdaglmkljbfkaaDoorF.sz_27) (.nil)), ?_⟩
          refine TV_cq rfl rfl rfl rfl rfl YtjdaglmkljbfkaaDoorF.cal_26 rfl (fun _ => hszL _) (.drop (by kernel_rfl) (.drop (by kernel_rfl) (.nil))) ?_
          refine TV_q rfl rfl rfl (fun _ => QT_slcL (m) rfl rfl rfl rfl Tryd.underlying28 YtjdaglmkljbfkaaDoorF.sz_5 rfl rfl rfl (fun _ => by omega)) ?_
          refine TV_q rfl rfl rfl (fun _ => QT_assign rfl rfl rfl) ?_
          refine TV_q rfl rfl rfl (fun _ => QT_assign rfl rfl rfl) ?_
          refine TV_end ?_
          refine TX_block_normal ?_
          refine TX_round ⟨(acc ++ [ys], rest.drop m, _, sv2, H'), by rw [hdl]; exact hR2, by rw [List.length_append, flatS_snoc]; exact hF', fun c hc => hrb c (List.mem_of_mem_drop hc), ?_, ?_⟩ (by show (rest.drop m).length < rest.length; rw [hdl]; omega) ⟨rfl, rfl, rfl, trivial⟩ (fun _ h => h.tail.tail.tail)
          · rw [hgs, hcons, if_neg hfit, Option.map_map]
            congr 1
            funext x
            simp
          · show (acc ++ [ys]).length + (rest.drop m).length ≤ _
            rw [List.length_append, hdl]
            show acc.length + 1 + _ ≤ _
            omega
      ·
        refine TC_exit ?_
        refine TX_then_exit ?_
        refine TX_then_exit ?_
        refine TX_block_here ?_
        refine TX_then ?_
        refine TC_seq ?_
        refine TC_reg ?_
        refine TL_q rfl rfl (QT_move rfl rfl rfl) ?_
        refine TL_A (St w0 (H ++ η)) (fun _ h => h.tail) ?_
        refine TL_e rfl rfl rfl (rfl) (ET_call rfl YtjdaglmkljbfkaaDoorF.cal_37 rfl (clipS_spec w0 η H sv acc.length _ hF)) ?_
        rintro cv _ ⟨hF2, rfl⟩
        refine TL_q rfl rfl (QT_assign rfl rfl rfl) ?_
        refine TL_q rfl rfl (QT_assign rfl rfl rfl) ?_
        refine TL_nil ?_
        refine TX_then ?_
        refine TC_ret ?_
        obtain rfl : rest = [] := List.length_eq_zero_iff.1 (by omega)
        obtain ⟨e0, eo⟩ := errG_ok (ys := acc) hc hle (by rw [hgs, getS_nil]; simp)
        exact TX_ret (.inl rfl) (res2 rfl rfl rfl) ⟨_, ⟨cv, H, by rw [e0], by rw [eo]; exact hF2, rfl⟩, fun _ h => h⟩
end Go.Proofs.YtjdaglmkljbfkaaDoor
namespace Go.Proofs.YtjdaglmkljbfkaaDoor
open Go Go.Gx Go.RowKit
set_option maxRecDepth 100000
def fitS (L : Lay) (y : List Nat) : Bool := fitB (fS L (y.headD 0)) y
def encS (L : Lay) (y : List Nat) : List Bool := enc (fS L (y.headD 0)) y
def packS (L : Lay) (y : List Nat) : List Nat := packB (encS L y)
def bytesS (L : Lay) (ys : List (List Nat)) : List Nat := ys.flatMap (packS L)
def errP (L : Lay) (ys : List (List Nat)) : Int := if okB L = true ∧ 6 ≤ L.ty then (if ys.all (fitS L) = true then (if 65536 < (bytesS L ys).length then 3 else 0) else 1) else 4
def outP (L : Lay) (ys : List (List Nat)) : List Nat := if errP L ys = 0 then bytesS L ys else []
theorem bytesS_append (L : Lay) (a b : List (List Nat)) : bytesS L (a ++ b) = bytesS L a ++ bytesS L b := by simp [bytesS]
theorem bytesS_lt (L : Lay) (ys : List (List Nat)) : ∀ c ∈ bytesS L ys, c < 256 := by
  intro c hc
  obtain ⟨y, _, h⟩ := List.mem_flatMap.1 hc
  exact packB_lt _ c h
theorem ShF.parts {y : List Nat} (h : ShF y) : y.headD 0 < 256 ∧ Sh y.tail ∧ y = y.headD 0 :: y.tail := by
  obtain ⟨x0, X, rfl, h0, hX⟩ := h
  exact ⟨h0, hX, rfl⟩
theorem encS_len {L : Lay} {y : List Nat} (h : ShF y) : (encS L y).length = tot (fS L (y.headD 0)) := by
  refine enc_len ?_
  rw [fS, List.length_cons, wS_len, h.len]
theorem packS_len {L : Lay} {y : List Nat} (h : ShF y) : (packS L y).length = szN L (y.headD 0) := by
  rw [packS, packB_len, encS_len h]; rfl
theorem bytesS_bd {L : Lay} (hk : okB L = true) (hty : L.ty = 6 ∨ L.ty = 7) : ∀ {ys : List (List Nat)}, (∀ y ∈ ys, ShF y) → (bytesS L ys).length ≤ 196 * ys.length
  | [], _ => by simp [bytesS]
  | y :: ys, h => by
    have h1 := packS_len (L := L) (h y (List.mem_cons_self ..))
    have h2 := (szN_pos hk hty (y.headD 0)).2
    have h3 := bytesS_bd hk hty (ys := ys) fun z hz => h z (List.mem_cons_of_mem _ hz)
    have e : bytesS L (y :: ys) = packS L y ++ bytesS L ys := by simp [bytesS]
    rw [e, List.length_append, List.length_cons]
    omega
theorem errP_bad {L : Lay} {ys : List (List Nat)} (h : errP L ys ≠ 0) : outP L ys = [] := by unfold outP; rw [if_neg h]
theorem fragNoneB {L : Lay} {ys : List (List Nat)} {e : Int} (h : errP L ys = e) (h0 : e ≠ 0) : Frag 5 1 (.slice none 0 0) (outP L ys).length (byV (outP L ys)) [] := by
  rw [errP_bad (by rw [h]; exact h0)]
  exact Frag.nil _ _
theorem flatS_len : ∀ {ys : List (List Nat)}, (∀ y ∈ ys, ShF y) → (flatS ys).length = ys.length * 49
  | [], _ => rfl
  | y :: ys, h => by
    have h1 := shV_len (h y (List.mem_cons_self ..)).len
    have h2 := flatS_len (ys := ys) fun z hz => h z (List.mem_cons_of_mem _ hz)
    have e : flatS (y :: ys) = shV y ++ flatS ys := by simp [flatS]
    rw [e, List.length_append, h1, h2, List.length_cons]; omega
theorem flatS_at : ∀ {ys : List (List Nat)}, (∀ y ∈ ys, ShF y) → ∀ {i : Nat} {y : List Nat}, ys[i]? = some y → i * 49 + 49 ≤ (flatS ys).length ∧ ((flatS ys).drop (i * 49)).take 49 = shV y
  | [], _, i, y, hi => by simp at hi
  | z :: ys, h, 0, y, hi => by
    obtain rfl : z = y := by simpa using hi
    have h1 := shV_len (h z (List.mem_cons_self ..)).len
    have e : flatS (z :: ys) = shV z ++ flatS ys := by simp [flatS]
    rw [e, List.length_append, h1, Nat.zero_mul, List.drop_zero, List.take_append_of_le_length (by omega), List.take_of_length_le (by omega)]
    exact ⟨by omega, rfl⟩
  | z :: ys, h, i + 1, y, hi => by
    have h1 := shV_len (h z (List.mem_cons_self ..)).len
    have e : flatS (z :: ys) = shV z ++ flatS ys := by simp [flatS]
    obtain ⟨h2, h3⟩ := flatS_at (ys := ys) (fun w hw => h w (List.mem_cons_of_mem _ hw)) (i := i) (y := y) (by simpa using hi)
    rw [e, List.length_append, h1]
    refine ⟨by omega, ?_⟩
    rw [List.drop_append, List.drop_eq_nil_of_le (by omega), h1, List.nil_append, show (i + 1) * 49 - 49 = i * 49 by omega, h3]
set_option maxHeartbeats 1000000 in
theorem sput_spec (w0 : Base) (η : Heap) (hG : Sets w0) (L : Lay) (sv : Value) (ys : List (List Nat)) (hs : SlA (St w0 η) sv 49 ys.length (flatS ys)) (hy : ∀ y ∈ ys, ShF y) (hn : ys.length ≤ 100000000) :
    CallsT Tryd.prog 74 [L.val, sv] (St w0 η) fun v A' => ∃ bv H, v = .tuple #[bv, .int .i64 (errP L ys)] ∧ Frag 5 1 bv (outP L ys).length (byV (outP L ys)) H ∧ A' = St w0 (H ++ η) := by
  obtain ⟨hfl, ad, cap, sb, so, rfl, hcap, had, hrd⟩ := hs.some
  refine CallsT.body Tryd.func74 rfl rfl ?_
  simp only [Tryd.ntmps74, slotsOf, Nat.reduceAdd]
  refine TC_seq ?_
  refine TC_reg ?_
  refine TL_e rfl rfl rfl (rfl) (ET_box rfl rfl) ?_
  rintro _ _ ⟨b2, rfl, rfl⟩
  refine TL_q rfl rfl (QT_assign rfl rfl rfl) ?_
  refine TL_q rfl rfl (QT_assign rfl rfl rfl) ?_
  refine TL_nil ?_
  refine TX_then ?_
  refine TC_seq ?_
  refine TC_seq ?_
  refine TC_reg ?_
  first
    | refine TL_q rfl rfl (QT_loadW 0 rfl rfl Tryd.underlying27 rfl rfl rfl YtjdaglmkljbfkaaDoorF.sz_27) ?_
    | refine TL_q rfl rfl (QT_loadW 1 rfl rfl Tryd.underlying27 rfl rfl rfl YtjdaglmkljbfkaaDoorF.sz_27) ?_
    | refine TL_q rfl rfl (QT_loadW 2 rfl rfl Tryd.underlying27 rfl rfl rfl YtjdaglmkljbfkaaDoorF.sz_27) ?_
    | refine TL_q rfl rfl (QT_loadA 0 rfl rfl Tryd.underlying27 rfl rfl rfl YtjdaglmkljbfkaaDoorF.sz_27 (fun _ => rfl)) ?_
    | refine TL_q rfl rfl (QT_loadA 1 rfl rfl Tryd.underlying27 rfl rfl rfl YtjdaglmkljbfkaaDoorF.sz_27 (fun _ => rfl)) ?_
    | refine TL_q rfl rfl (QT_loadA 2 rfl rfl Tryd.underlying27 rfl rfl rfl YtjdaglmkljbfkaaDoorF.sz_27 (fun _ => rfl)) ?_
  refine TL_cq rfl rfl rfl rfl YtjdaglmkljbfkaaDoorF.cal_35 rfl (fun _ => scheck_spec w0 _ hG L) ?_
  refine TL_q rfl rfl (QT_assign rfl rfl rfl) ?_
  refine TL_nil ?_
  refine TX_then ?_
  refine TC_seq ?_
  refine TC_reg ?_
  refine TL_q rfl rfl (QT_move rfl rfl rfl) ?_
  refine TL_q rfl rfl (QT_neq rfl rfl rfl rfl) ?_
  refine TL_nil ?_
  refine TX_then ?_
  first
    | refine TC_cond_dec rfl (fun h14 => ?_) (fun h14 => ?_)
    | refine TC_cond rfl (fun h14 => ?_) (fun h14 => ?_)
  ·
    refine TC_seq ?_
    refine TC_reg ?_
    refine TL_q rfl rfl (QT_move rfl rfl rfl) ?_
    refine TL_q rfl rfl (QT_assign rfl rfl rfl) ?_
    refine TL_q rfl rfl (QT_assign rfl rfl rfl) ?_
    refine TL_nil ?_
    refine TX_then ?_
    refine TC_ret ?_
    refine TX_then_ret ?_
    have e4 := (errC_bad h14).1
    have eP : errP L ys = 4 := by
      unfold errP; rw [if_neg]
      intro hc
      exact h14 (by unfold errC; rw [if_pos hc])
    exact TX_ret (.inl rfl) (res2 rfl rfl rfl) ⟨_, ⟨_, [], by rw [eP, e4], fragNoneB eP (by decide), rfl⟩, fun _ h => h.tail⟩
  ·
    refine TC_skip ?_
    refine TX_then ?_
    refine TC_seq ?_
    have hc := errC_ok (Classical.not_not.1 h14)
    have hty := ty67 hc
    refine TC_reg ?_
    refine TL_q rfl rfl (QT_assign rfl rfl rfl) ?_
    refine TL_nil ?_
    refine TX_then ?_
    refine TC_seq ?_
    refine TC_seq ?_
    refine TC_reg ?_
    refine TL_q rfl rfl (QT_move rfl rfl rfl) ?_
    refine TL_q rfl rfl (QT_len rfl rfl Tryd.underlying31 rfl) ?_
    refine TL_q rfl rfl (QT_move rfl rfl rfl) ?_
    refine TL_nil ?_
    refine TX_then ?_
    refine TC_block ?_
    refine TC_loop (γ := { t : Nat × Value × Heap // t.1 ≤ ys.length ∧ Frag 5 1 t.2.1 (bytesS L (ys.take t.1)).length (byV (bytesS L (ys.take t.1))) t.2.2 ∧ (ys.take t.1).all (fitS L) = true }) (fun u => [(2, true, .pointer (some ⟨b2, 0, none⟩)), (7, true, u.1.2.1), (16, true, .slice ad ys.length cap), (17, true, .int .i64 (ys.length : Int)), (18, true, .int .i64 (u.1.1 : Int))]) (fun u => St w0 ((b2, 27, L.cells) :: (u.1.2.2 ++ η))) (fun u => ys.length - u.1.1) ⟨(0, .slice none 0 0, []), Nat.zero_le _, Frag.nil _ _, rfl⟩ ⟨rfl, rfl, rfl, rfl, rfl, trivial⟩ (fun _ h => h) ?_
    rintro ⟨⟨i, bv, H⟩, hin, hF, hfit⟩
    dsimp only at hin hF hfit ⊢
    refine TC_seq ?_
    refine TC_reg ?_
    refine TL_q rfl rfl (QT_lss rfl rfl rfl rfl) ?_
    refine TL_nil ?_
    refine TX_then ?_
    refine TC_seq ?_
    first
      | refine TC_cond_dec rfl (fun h19 => ?_) (fun h19 => ?_)
      | refine TC_cond rfl (fun h19 => ?_) (fun h19 => ?_)
    ·
      have hi' : i < ys.length := by omega
      obtain ⟨y, hyi⟩ : ∃ y, ys[i]? = some y := ⟨_, List.getElem?_eq_getElem hi'⟩
      have hyF := hy y (List.mem_of_getElem? hyi)
      obtain ⟨hat1, hat2⟩ := flatS_at hy hyi
      obtain ⟨y0, Y, hyeq, h0, hY⟩ := id hyF
      have htk : ys.take (i + 1) = ys.take i ++ [y] := by rw [List.take_add_one, hyi]; rfl
      have hyl : (shV y).length = 49 := shV_len hyF.len
      have hyz : Sz Tryd.prog 79 (shV y).length := by rw [hyl]; exact YtjdaglmkljbfkaaDoorF.sz_79
      have hyi2 := shV_ints hyF
      have hb196 := bytesS_bd hc.1 hty (ys := ys.take i) fun z hz => hy z (List.mem_of_mem_take hz)
      have htl : (ys.take i).length = i := by rw [List.length_take]; omega
      rw [htl] at hb196
      have hsz2 := (szN_pos hc.1 hty y0).2
      have hpl : (packS L y).length ≤ 196 := by rw [packS_len hyF, hyeq]; exact hsz2
      have hthr := thr_L hc.1 hty h0 hY
      have hel : (encS L y).length ≤ 1568 := by rw [encS_len hyF]; exact (fS_tot hc.1 hty _).2.1
      have hfy : fitS L y = fitB (fS L y0) (y0 :: Y) := by rw [hyeq]; rfl
      have hey : encS L y = enc (fS L y0) (y0 :: Y) := by rw [hyeq]; rfl
      rw [← hfy, ← hey] at hthr
      have hspec := fun b9 b24 rb K0 (hK : RowAt rb [] K0) => through_spec (layer_ok w0 b24 rb) ((b2, 27, L.cells) :: (H ++ η)) ((b24, 158, [.pointer (some ⟨rb, 0, none⟩), .int .i64 0]) :: K0) L hc.1 hty ([], 0) b9 y0 Y h0 hY trivial ⟨K0, hK, rfl⟩ (by decide)
      rw [← hyeq] at hspec hthr
      obtain ⟨G, hGd⟩ : ∃ G, G = thr goL L y0 Y ([], 0) := ⟨_, rfl⟩
      rw [← hGd] at hthr hspec
      obtain ⟨zs, l, e⟩ := G
      obtain ⟨hz, hthr⟩ := hthr
      dsimp only at hz
      subst hz
      clear hGd hyeq
      refine TC_skip ?_
      refine TX_then ?_
      refine TC_seq ?_
      refine TC_block ?_
      refine TC_seq ?_
      refine TC_reg ?_
      refine TL_q rfl rfl (QT_indexG i rfl rfl Tryd.underlying31 YtjdaglmkljbfkaaDoorF.sz_79 rfl rfl rfl (fun _ => hi') (fun _ => had (by omega))) ?_
      refine TL_q rfl rfl (QT_loadRAj (out := shV zs) (i * 49) rfl rfl Tryd.underlying79 rfl YtjdaglmkljbfkaaDoorF.sz_79 (hrd.mono fun _ h => h.tail.app_right) rfl (fun _ => hat1) (fun _ => hat2)) ?_
      refine TL_e rfl rfl rfl (rfl) (ET_alloc rfl YtjdaglmkljbfkaaDoorF.zero_79) ?_
      rintro _ _ ⟨b9, rfl, rfl⟩
      refine TL_e0 rfl rfl (rfl) (ET_storeW (vs := shV zs) 0 rfl rfl rfl hyz rfl (List.all_eq_true.2 hyi2.oneCell) (by rw [hyl]; rfl)) ?_
      rintro _ _ ⟨rfl, rfl⟩
      refine TL_nil ?_
      refine TX_then ?_
      refine TC_seq ?_
      refine TC_reg ?_
      refine TL_e rfl rfl rfl (rfl) (ET_call rfl YtjdaglmkljbfkaaDoorF.cal_75 rfl (newRowS w0 _)) ?_
      rintro _ _ ⟨rb, K0, rfl, hK0, rfl⟩
      refine TL_q rfl rfl (QT_build rfl rfl YtjdaglmkljbfkaaDoorF.zero_158 YtjdaglmkljbfkaaDoorF.pl_158 rfl rfl rfl) ?_
      refine TL_e rfl rfl rfl (rfl) (ET_box rfl rfl) ?_
      rintro _ _ ⟨b24, rfl, rfl⟩
      refine TL_q rfl rfl (QT_assign rfl rfl rfl) ?_
      refine TL_nil ?_
      refine TX_then ?_
      refine TC_seq ?_
      refine TC_seq ?_
      refine TC_A (St w0 ((b9, 79, shV zs) :: (((b24, 158, [.pointer (some ⟨rb, 0, none⟩), .int .i64 0]) :: K0) ++ ((b2, 27, L.cells) :: (H ++ η))))) (fun w h => (show St w0 ((b24, 158, [.pointer (some ⟨rb, 0, none⟩), .int .i64 0]) :: (K0 ++ ((b9, 79, shV zs) :: (b2, 27, L.cells) :: (H ++ η)))) w from h).cnt fun p => by simp only [List.countP_append, List.countP_cons]; omega) ?_
      refine TC_reg ?_
      refine TL_q rfl rfl (QT_loadRAj (cs := L.cells) (out := L.cells) 0 rfl rfl Tryd.underlying27 rfl YtjdaglmkljbfkaaDoorF.sz_27 ((Rd.own (w0 := w0) (η := [(b2, 27, L.cells)]) 0 rfl).mono fun w h => h.cnt fun p => by simp only [List.countP_append, List.countP_cons, List.countP_nil]; omega) rfl (fun _ => Nat.le_refl 18) (fun _ => rfl)) ?_
      refine TL_q rfl rfl (QT_move rfl rfl rfl) ?_
      refine TL_q rfl rfl (QT_makeIface rfl rfl Tryd.underlying156 rfl rfl) ?_
      refine TL_e rfl rfl rfl (rfl) (ET_call rfl YtjdaglmkljbfkaaDoorF.cal_36 rfl (hspec b9 b24 rb K0 hK0)) ?_
      rintro _ _ ⟨rfl, K', hK', rfl⟩
      refine TL_nil ?_
      refine TX_then ?_
      refine TC_seq ?_
      obtain ⟨K1, hK1, rfl⟩ := hK'
      dsimp only at hK1
      refine TC_reg ?_
      refine TL_q rfl rfl (QT_move rfl rfl rfl) ?_
      refine TL_q rfl rfl (QT_nilCheck rfl rfl rfl) ?_
      refine TL_q rfl rfl (QT_field rfl rfl YtjdaglmkljbfkaaDoorF.fld_158_1 rfl) ?_
      refine TL_q rfl rfl (QT_load (v := .int .i64 e) 1 rfl rfl Tryd.underlying34 rfl rfl rfl (fun _ => rfl)) ?_
      refine TL_q rfl rfl (QT_neq rfl rfl rfl rfl) ?_
      refine TL_nil ?_
      refine TX_then ?_
      first
        | refine TC_cond_dec rfl (fun h33 => ?_) (fun h33 => ?_)
        | refine TC_cond rfl (fun h33 => ?_) (fun h33 => ?_)
      ·
        refine TC_seq ?_
        refine TC_draw [(0, 0), (1, 0), (2, 0), (3, 0), (4, 0), (5, 0)] YtjdaglmkljbfkaaDoorF.mixed (by kernel_rfl) (St.calm _ _) ?_
        refine TV_q rfl rfl rfl (fun _ => QT_move rfl rfl rfl) ?_
        refine TV_q rfl rfl rfl (fun _ => QT_nilCheck rfl rfl rfl) ?_
        refine TV_q rfl rfl rfl (fun _ => QT_field rfl rfl YtjdaglmkljbfkaaDoorF.fld_158_1 rfl) ?_
        refine TV_ql rfl rfl rfl (QT_load (v := .int .i64 e) 1 rfl rfl Tryd.underlying34 rfl rfl rfl (fun _ => rfl)) ?_
        refine TV_q rfl rfl rfl (fun _ => QT_assign rfl rfl rfl) ?_
        refine TV_q rfl rfl rfl (fun _ => QT_assign rfl rfl rfl) ?_
        refine TV_end ?_
        refine TX_then ?_
        refine TC_ret ?_
        refine TX_then_ret ?_
        refine TX_block_ret ?_
        refine TX_then_ret ?_
        refine TX_then_ret ?_
        refine TX_block_ret ?_
        refine TX_then_ret ?_
        have hbad : fitS L zs = false := by
          cases hf : fitS L zs with
          | false => rfl
          | true =>
            rw [hf, if_pos rfl] at hthr
            simp only [Prod.mk.injEq] at hthr
            exact absurd hthr.2 h33
        rw [hbad, if_neg (by decide)] at hthr
        have e1 : e = 1 := hthr
        have eP : errP L ys = 1 := by
          unfold errP
          rw [if_pos hc, if_neg]
          intro ha
          have := List.all_eq_true.1 ha zs (List.mem_of_getElem? hyi)
          rw [hbad] at this
          exact absurd this (by decide)
        exact TX_ret (.inl rfl) (res2 rfl rfl rfl) ⟨_, ⟨_, [], by rw [eP, e1], fragNoneB eP (by decide), rfl⟩, fun w h => h.cnt fun p => by simp only [List.countP_append, List.countP_cons, List.countP_nil]; omega⟩
      ·
        refine TC_skip ?_
        refine TX_then ?_
        have hok1 : fitS L zs = true := by
          cases hf : fitS L zs with
          | true => rfl
          | false =>
            rw [hf, if_neg (by decide)] at hthr
            have e1 : e = 1 := hthr
            rw [e1] at h33
            exact absurd (Classical.not_not.1 h33) (by decide)
        rw [hok1, if_pos rfl] at hthr
        simp only [Prod.mk.injEq] at hthr
        obtain ⟨rfl, rfl⟩ := hthr
        have hbx := RowAt.bytesX (w0 := w0) [(b9, 79, shV zs), (b24, 158, [.pointer (some ⟨rb, 0, none⟩), .int .i64 0])] ((b2, 27, L.cells) :: (H ++ η)) hK1 (by omega)
        rw [show packB (encS L zs) = packS L zs from rfl] at hbx
        refine TC_reg ?_
        refine TL_q rfl rfl (QT_move rfl rfl rfl) ?_
        refine TL_q rfl rfl (QT_move rfl rfl rfl) ?_
        refine TL_q rfl rfl (QT_nilCheck rfl rfl rfl) ?_
        refine TL_q rfl rfl (QT_field rfl rfl YtjdaglmkljbfkaaDoorF.fld_158_0 rfl) ?_
        refine TL_q rfl rfl (QT_load (v := .pointer (some ⟨rb, 0, none⟩)) 1 rfl rfl Tryd.underlying151 rfl rfl rfl (fun _ => rfl)) ?_
        refine TL_e rfl rfl rfl (rfl) (ET_call rfl YtjdaglmkljbfkaaDoorF.cal_77 rfl (hbx)) ?_
        rintro nv _ ⟨H2, hF2, rfl⟩
        refine TL_e rfl rfl rfl (rfl) (ET_appendL (η := η) (L := H2 ++ [(b2, 27, L.cells)]) rfl Tryd.underlying28 el_Byte rfl rfl hF (fun w h => h.cnt fun p => by simp only [List.countP_append, List.countP_cons, List.countP_nil]; omega) (hF2.within fun p => by simp only [List.countP_append]; omega) (byV_ints (packB_lt _)).oneCell (by omega) (by omega)) ?_
        rintro bv2 _ ⟨H', hF', rfl⟩
        refine TL_q rfl rfl (QT_assign rfl rfl rfl) ?_
        refine TL_nil ?_
        refine TX_block_normal ?_
        refine TX_then ?_
        refine TC_reg ?_
        refine TL_q rfl rfl (QT_add rfl rfl rfl rfl (fun _ => ⟨by omega, by omega⟩)) ?_
        refine TL_q rfl rfl (QT_move rfl rfl rfl) ?_
        refine TL_nil ?_
        refine TX_round ⟨(i + 1, bv2, H'), hi', ?_, ?_⟩ (by show ys.length - (i + 1) < ys.length - i; omega) ⟨rfl, rfl, rfl, rfl, rfl, trivial⟩ (fun w h => h.cnt fun p => by simp only [List.countP_append, List.countP_cons, List.countP_nil]; omega)
        · have e : bytesS L (ys.take (i + 1)) = bytesS L (ys.take i) ++ packS L zs := by rw [htk, bytesS_append]; simp [bytesS]
          show Frag _ 1 _ (bytesS L (ys.take (i + 1))).length (byV (bytesS L (ys.take (i + 1)))) H'
          rw [e, List.length_append, byV_append]
          exact hF'
        · show (ys.take (i + 1)).all (fitS L) = true
          rw [htk, List.all_append, hfit]
          simp [hok1]
    ·
      refine TC_exit ?_
      refine TX_then_exit ?_
      refine TX_then_exit ?_
      refine TX_block_here ?_
      refine TX_then ?_
      refine TC_seq ?_
      refine TC_seq ?_
      obtain rfl : i = ys.length := by omega
      rw [List.take_of_length_le (Nat.le_refl _)] at hF hfit
      have hbl := bytesS_bd hc.1 hty hy
      obtain ⟨bad, bcap, rfl, _, _⟩ := hF.slice
      refine TC_reg ?_
      refine TL_q rfl rfl (QT_move rfl rfl rfl) ?_
      refine TL_q rfl rfl (QT_len rfl rfl Tryd.underlying28 rfl) ?_
      refine TL_q rfl rfl (QT_gtr rfl rfl rfl rfl) ?_
      refine TL_nil ?_
      refine TX_then ?_
      first
        | refine TC_cond_dec rfl (fun h48 => ?_) (fun h48 => ?_)
        | refine TC_cond rfl (fun h48 => ?_) (fun h48 => ?_)
      ·
        refine TC_seq ?_
        refine TC_reg ?_
        refine TL_q rfl rfl (QT_assign rfl rfl rfl) ?_
        refine TL_q rfl rfl (QT_assign rfl rfl rfl) ?_
        refine TL_nil ?_
        refine TX_then ?_
        refine TC_ret ?_
        refine TX_then_ret ?_
        have eP : errP L ys = 3 := by unfold errP; rw [if_pos hc, if_pos hfit, if_pos (by omega)]
        exact TX_ret (.inl rfl) (res2 rfl rfl rfl) ⟨_, ⟨_, [], by rw [eP], fragNoneB eP (by decide), rfl⟩, fun w h => h.tail.app_right⟩
      ·
        refine TC_skip ?_
        refine TX_then ?_
        refine TC_seq ?_
        refine TC_reg ?_
        refine TL_q rfl rfl (QT_move rfl rfl rfl) ?_
        refine TL_A (St w0 (H ++ η)) (fun _ h => h.tail) ?_
        refine TL_e rfl rfl rfl (rfl) (ET_call rfl YtjdaglmkljbfkaaDoorF.cal_78 rfl (clipB_spec w0 η H _ _ _ hF)) ?_
        rintro cv _ ⟨hF2, rfl⟩
        refine TL_q rfl rfl (QT_assign rfl rfl rfl) ?_
        refine TL_q rfl rfl (QT_assign rfl rfl rfl) ?_
        refine TL_nil ?_
        refine TX_then ?_
        refine TC_ret ?_
        have eP : errP L ys = 0 := by unfold errP; rw [if_pos hc, if_pos hfit, if_neg (by omega)]
        exact TX_ret (.inl rfl) (res2 rfl rfl rfl) ⟨_, ⟨cv, H, by rw [eP], by unfold outP; rw [if_pos eP]; exact hF2, rfl⟩, fun _ h => h⟩
end Go.Proofs.YtjdaglmkljbfkaaDoor
namespace Go.Proofs.YtjdaglmkljbfkaaDoor
open Go Go.Gx Go.RowKit
set_option maxRecDepth 100000
theorem QT_v {P : Program} {n : Nat} {ops : Array Oper} {o : Oper} {σ : Slots} {A : World → Prop} {g : Bool} {v v' : Value} (h : QT P n ops o σ A g v) (e : v = v') : QT P n ops o σ A g v' := e ▸ h
theorem slotV {σ : Slots} {t : Nat} {c : Bool} {v v' : Value} (hl : Go.Gx.look σ t = some (c, v)) (h : v = v') : Go.Gx.look σ t = some (c, v') := h ▸ hl
def okS (L : Lay) : Bool := decide (okB L = true ∧ 6 ≤ L.ty)
theorem shr_zero {v : Nat} {n : Int} (hv : v < 4294967296) (h0 : 0 ≤ n) : decide ((v : Int).fdiv (2 ^ (min n.toNat IntKind.u64.bits)) = 0) = decide (v < 2 ^ n.toNat) := by
  rw [shr64 hv h0, Bool.eq_iff_iff, decide_eq_true_eq, decide_eq_true_eq, show ((v / 2 ^ n.toNat : Nat) : Int) = 0 ↔ v / 2 ^ n.toNat = 0 by omega, Nat.div_eq_zero_iff]
  have := Nat.two_pow_pos n.toNat
  omega
theorem fitB_append : ∀ {a b : Ws} {xs zs : List Nat}, a.length = xs.length → fitB (a ++ b) (xs ++ zs) = (fitB a xs && fitB b zs)
  | [], b, [], zs, _ => by simp [fitB]
  | [], _, _ :: _, _, h => by simp at h
  | _ :: _, _, [], _, h => by simp at h
  | (w, m) :: a, b, x :: xs, zs, h => by
    simp only [List.cons_append, fitB]
    rw [fitB_append (by simpa using h), Bool.and_assoc]
def rmB (L : Lay) (x0 : Nat) (X : List Nat) (k : Nat) : Bool := decide (x0 < 2 ^ L.fl.toNat) && fitB ((wS L x0).take k) (X.take k)
theorem rmB_step {L : Lay} {x0 k w m x : Nat} {X : List Nat} (hw : (wS L x0)[k]? = some (w, m)) (hx : X[k]? = some x) : rmB L x0 X (k + 1) = (rmB L x0 X k && decide (x < 2 ^ w)) := by
  have h1 : k < (wS L x0).length := (List.getElem?_eq_some_iff.1 hw).1
  have h2 : k < X.length := (List.getElem?_eq_some_iff.1 hx).1
  unfold rmB
  rw [List.take_add_one, List.take_add_one, hw, hx]
  show (_ && fitB ((wS L x0).take k ++ [(w, m)]) (X.take k ++ [x])) = _
  rw [fitB_append (by rw [List.length_take, List.length_take]; omega), ← Bool.and_assoc]
  simp [fitB]
theorem rmB_all {L : Lay} {x0 : Nat} {X : List Nat} (h : X.length = 48) : rmB L x0 X 48 = fitS L (x0 :: X) := by
  unfold rmB fitS
  rw [List.take_of_length_le (by rw [wS_len]; exact Nat.le_refl _), List.take_of_length_le (by omega)]
  rfl
theorem eq0 : EqOk Tryd.prog 62 spotK := ⟨by kernel_rfl, by kernel_rfl, by kernel_rfl, by kernel_rfl⟩
theorem spot0 {a b : Nat} : eqC [.int .u32 (a : Int), .int .u32 (b : Int)] [.int .u32 0, .int .u32 0] = (decide (a < 2 ^ 0) && decide (b < 2 ^ 0)) := by
  rw [Bool.eq_iff_iff]
  simp [eqC, litOf]
end Go.Proofs.YtjdaglmkljbfkaaDoor
namespace Go.Proofs.YtjdaglmkljbfkaaDoor
open Go Go.Gx Go.RowKit
set_option maxRecDepth 100000
theorem tot_take (ws : Ws) (k : Nat) : tot (ws.take k) ≤ tot ws := by
  have := tot_append (ws.take k) (ws.drop k)
  rw [List.take_append_drop] at this
  omega
theorem tot_step {ws : Ws} {k w m : Nat} (h : ws[k]? = some (w, m)) : tot (ws.take (k + 1)) = tot (ws.take k) + w := by
  rw [List.take_add_one, h, tot_append]
  simp [tot]
theorem zer_at {k : Nat} (h : k < 48) : zer[k]? = some 0 := by
  unfold zer
  rw [List.getElem?_replicate, if_pos h]
section
variable {L : Lay} {bs : List Nat} {f a0 : Nat}
theorem rkR_at (hok : okB L = true) (hT : a0 + tot (wS L f) ≤ 8 * bs.length) (k : Nat) : (rk (goR bs) L f zer (a0, 0) k).2 = (a0 + tot ((wS L f).take k), 0) := by
  have h1 := tot_take (wS L f) k
  unfold rk
  rw [run_goR_ok (fun p hp => wS_le hok f p (List.mem_of_mem_take hp)) (by omega) (by rw [List.length_take, List.length_take, wS_len]; rfl)]
theorem refR_step (hok : okB L = true) (hT : a0 + tot (wS L f) ≤ 8 * bs.length) {k w m : Nat} (hk : k < 48) (hw : (wS L f)[k]? = some (w, m)) :
    a0 + tot ((wS L f).take (k + 1)) = a0 + tot ((wS L f).take k) + w ∧ a0 + tot ((wS L f).take k) + w ≤ 8 * bs.length ∧
    setAt (cellsK (goR bs) L f zer (a0, 0) k) (k + 1) [.int (skK (k + 1)) ((getV bs ((a0 + tot ((wS L f).take k) : Nat) : Int) (w : Int) % m : Nat) : Int)] = cellsK (goR bs) L f zer (a0, 0) (k + 1) := by
  have h1 := tot_step hw
  have h2 := tot_take (wS L f) (k + 1)
  refine ⟨by omega, by omega, ?_⟩
  have := (rk_step (go := goR bs) (s := ((a0, 0) : Nat × Int)) (show zer.length = 48 from rfl) hw (zer_at hk)).2
  rw [rkR_at hok hT] at this
  rw [← this]
  unfold goR
  rw [if_pos rfl]
theorem refR_skip1 (hok : okB L = true) (hT : a0 + tot (wS L f) ≤ 8 * bs.length) {k m : Nat} (hk : k < 48) (hw : (wS L f)[k]? = some (0, m)) :
    cellsK (goR bs) L f zer (a0, 0) (k + 1) = cellsK (goR bs) L f zer (a0, 0) k ∧ tot ((wS L f).take (k + 1)) = tot ((wS L f).take k) := by
  obtain ⟨h1, h2, h3⟩ := refR_step hok hT hk hw
  have e : getV bs ((a0 + tot ((wS L f).take k) : Nat) : Int) ((0 : Nat) : Int) = 0 := by
    rw [getV_ok (by decide) h2, List.take_zero]; rfl
  rw [e] at h3
  rw [← h3]
  refine ⟨?_, by omega⟩
  have hc := cellsK_at (go := goR bs) (L := L) (fl := f) (s := ((a0, 0) : Nat × Int)) (show zer.length = 48 from rfl) (zer_at hk)
  rw [show ((0 % m : Nat) : Int) = ((0 : Nat) : Int) by rw [Nat.zero_mod]]
  exact set_same hc
theorem refR_skip (hok : okB L = true) (hT : a0 + tot (wS L f) ≤ 8 * bs.length) (k : Nat) : ∀ n, k + n ≤ 48 → (∀ p, k ≤ p → p < k + n → ∃ m, (wS L f)[p]? = some (0, m)) →
    cellsK (goR bs) L f zer (a0, 0) (k + n) = cellsK (goR bs) L f zer (a0, 0) k ∧ tot ((wS L f).take (k + n)) = tot ((wS L f).take k)
  | 0, _, _ => ⟨rfl, rfl⟩
  | n + 1, hn, h => by
    obtain ⟨h1, h2⟩ := refR_skip hok hT k n (by omega) fun p h1 h2 => h p h1 (by omega)
    obtain ⟨m, hm⟩ := h (k + n) (by omega) (by omega)
    obtain ⟨h3, h4⟩ := refR_skip1 hok hT (by omega) hm
    exact ⟨h3.trans h1, h4.trans h2⟩
theorem skip_pt {p : Nat} (h1 : 2 * ptN L f ≤ p) (h2 : p < 32) : ∃ m, (wS L f)[p]? = some (0, m) :=
  ⟨_, by rw [wS_at (by omega), if_pos h2]; unfold wPt; rw [if_neg (by omega)]⟩
theorem skip_cl {p c : Nat} (hp : 32 ≤ p) (h2 : p < 48) (h : clN L f ≤ (p - 32) / 4 ∨ L.cs.toNat ≤ (p - 32) % 4) : ∃ m, (wS L f)[p]? = some (0, m) :=
  ⟨_, by rw [wS_at (by omega), if_neg (by omega)]; unfold wCl; rw [if_neg (by omega)]⟩
end
theorem lay_at {L : Lay} {k : Nat} {z : Int} {n : Nat} (h : L.cells[k]? = some (.int .i64 z)) (e : (n : Int) = z) : L.cells[k]? = some (.int .i64 (n : Int)) := by rw [e]; exact h
end Go.Proofs.YtjdaglmkljbfkaaDoor
namespace Go.Proofs.YtjdaglmkljbfkaaDoor
open Go Go.Gx Go.RowKit
set_option maxRecDepth 100000
theorem fitB_at : ∀ {ws : Ws} {xs : List Nat}, fitB ws xs = true → ∀ {k w m x : Nat}, ws[k]? = some (w, m) → xs[k]? = some x → x < 2 ^ w
  | [], _, _, k, w, m, x, h, _ => by simp at h
  | _ :: _, [], _, k, w, m, x, _, h => by simp at h
  | (w, m) :: ws, x :: xs, h, 0, _, _, _, h1, h2 => by
    cases h1; cases h2
    simp only [fitB, Bool.and_eq_true, decide_eq_true_eq] at h
    exact h.1
  | (w, m) :: ws, x :: xs, h, k + 1, _, _, _, h1, h2 => by
    simp only [fitB, Bool.and_eq_true, decide_eq_true_eq] at h
    exact fitB_at h.2 h1 h2
theorem enc_append : ∀ {a b : Ws} {xs zs : List Nat}, a.length = xs.length → enc (a ++ b) (xs ++ zs) = enc a xs ++ enc b zs
  | [], b, [], zs, _ => by simp [enc]
  | [], _, _ :: _, _, h => by simp at h
  | _ :: _, _, [], _, h => by simp at h
  | (w, m) :: a, b, x :: xs, zs, h => by
    simp only [List.cons_append, enc]
    rw [enc_append (by simpa using h), List.append_assoc]
/-- the bits when the flag and k other numbers are put -/
def eK (L : Lay) (x0 : Nat) (X : List Nat) (k : Nat) : List Bool := bitsN L.fl.toNat x0 ++ enc ((wS L x0).take k) (X.take k)
theorem eK_step {L : Lay} {x0 k w m x : Nat} {X : List Nat} (hw : (wS L x0)[k]? = some (w, m)) (hx : X[k]? = some x) : eK L x0 X (k + 1) = eK L x0 X k ++ bitsN w x := by
  have h1 : k < (wS L x0).length := (List.getElem?_eq_some_iff.1 hw).1
  have h2 : k < X.length := (List.getElem?_eq_some_iff.1 hx).1
  unfold eK
  rw [List.take_add_one, List.take_add_one, hw, hx]
  show _ ++ enc ((wS L x0).take k ++ [(w, m)]) (X.take k ++ [x]) = _
  rw [enc_append (by rw [List.length_take, List.length_take]; omega), ← List.append_assoc]
  simp [enc]
theorem eK_skip {L : Lay} {x0 : Nat} {X : List Nat} (hX : X.length = 48) (k : Nat) : ∀ n, k + n ≤ 48 → (∀ p, k ≤ p → p < k + n → ∃ m, (wS L x0)[p]? = some (0, m)) → eK L x0 X (k + n) = eK L x0 X k
  | 0, _, _ => rfl
  | n + 1, hn, h => by
    obtain ⟨m, hm⟩ := h (k + n) (by omega) (by omega)
    obtain ⟨x, hx⟩ := get48 hX (show k + n < 48 by omega)
    rw [← Nat.add_assoc, eK_step hm hx, eK_skip hX k n (by omega) fun p h1 h2 => h p h1 (by omega)]
    simp [bitsN]
theorem eK_all {L : Lay} {x0 : Nat} {X : List Nat} (hX : X.length = 48) : eK L x0 X 48 = encS L (x0 :: X) := by
  unfold eK
  rw [List.take_of_length_le (by rw [wS_len]; exact Nat.le_refl _), List.take_of_length_le (by omega)]
  rfl
theorem eK_len {L : Lay} (hok : okB L = true) (hty : L.ty = 6 ∨ L.ty = 7) {x0 : Nat} {X : List Nat} (hX : X.length = 48) {k : Nat} (hk : k ≤ 48) : (eK L x0 X k).length ≤ 1568 := by
  have h1 := fS_tot hok hty x0
  have h2 : tot (fS L x0) = L.fl.toNat + tot (wS L x0) := tot_cons _ _
  have h3 := tot_take (wS L x0) k
  unfold eK
  rw [List.length_append, bitsN_len, enc_len (by rw [List.length_take, List.length_take, wS_len, hX])]
  omega
theorem putL_ok {l : List Bool} {v w : Nat} (hw : w ≤ 32) (hv : v < 2 ^ w) (h : l.length + w ≤ 524288) : putL l v w = l ++ bitsN w v := by
  unfold putL
  rw [if_pos (putE_zero hw hv h), Int.toNat_natCast]
theorem flatS_elem {ys : List (List Nat)} (h : ∀ y ∈ ys, ShF y) {i p : Nat} {y : List Nat} (hi : ys[i]? = some y) (hp : p < 49) : (flatS ys)[i * 49 + p]? = (shV y)[p]? := by
  rw [← (flatS_at h hi).2, List.getElem?_take, if_pos hp, List.getElem?_drop]
end Go.Proofs.YtjdaglmkljbfkaaDoor
namespace Go.Proofs.YtjdaglmkljbfkaaDoor
open Go Go.Gx
set_option maxRecDepth 100000
theorem ShF.und {y : List Nat} (h : ShF y) (L : Lay) : Und (fS L (y.headD 0)) y := by
  obtain ⟨x0, X, rfl, h0, hX⟩ := h
  exact ⟨h0, hX.und L x0⟩
section
variable {L : Lay}
theorem flB_pack {y : List Nat} (h : ShF y) (hf : fitS L y = true) (r : List Bool) : flB L (encS L y ++ r) = y.headD 0 := by
  obtain ⟨x0, X, rfl, h0, hX⟩ := h
  unfold fitS at hf
  simp only [List.headD_cons, fS, fitB, Bool.and_eq_true, decide_eq_true_eq] at hf
  have e : (encS L (x0 :: X) ++ r).take L.fl.toNat = bitsN L.fl.toNat x0 := by
    unfold encS
    rw [List.headD_cons, fS, enc, List.append_assoc, List.take_append_of_le_length (by rw [bitsN_len]; exact Nat.le_refl _), List.take_of_length_le (by rw [bitsN_len]; exact Nat.le_refl _)]
  unfold flB
  rw [e, num_bitsN, Nat.mod_eq_of_lt hf.1, Nat.mod_eq_of_lt h0]
  rfl
theorem dcS_pack {y : List Nat} (h : ShF y) (hf : fitS L y = true) (r : List Bool) : dcS L (encS L y ++ r) = y := by
  unfold dcS
  rw [flB_pack h hf]
  exact dec_enc r (h.und L) hf
theorem byB_pack (y : List Nat) (r : List Nat) : ∃ q, byB (packS L y ++ r) = encS L y ++ q :=
  ⟨List.replicate (8 * (((encS L y).length + 7) / 8) - (encS L y).length) false ++ byB r, by rw [byB_append, packS, byB_packB, List.append_assoc]⟩
theorem dcS_head (l : List Bool) : (dcS L l).headD 0 = flB L l := rfl
theorem dcS_fit (l : List Bool) : fitS L (dcS L l) = true := by
  unfold fitS
  rw [dcS_head]
  exact dec_fit _ _
end
section
variable {L : Lay} (hok : okB L = true) (hty : L.ty = 6 ∨ L.ty = 7)
include hok hty
theorem getS_pack {y : List Nat} (h : ShF y) (hf : fitS L y = true) (r : List Nat) : getS L (packS L y ++ r) = (getS L r).map (y :: ·) := by
  have hl := packS_len (L := L) h
  have hp := szN_pos hok hty (y.headD 0)
  obtain ⟨q, hq⟩ := byB_pack y r
  have h0 : packS L y ++ r ≠ [] := by
    intro e
    have := congrArg List.length e
    rw [List.length_append, hl] at this
    have h2 : szN L (y.headD 0) + r.length = 0 := this
    omega
  rw [getS_cons hok hty h0, hq, flB_pack h hf, dcS_pack h hf, if_neg, ← hl, List.drop_left]
  rw [List.length_append, hl]
  unfold szN
  omega
theorem getS_bytes : ∀ {ys : List (List Nat)}, (∀ y ∈ ys, ShF y) → ys.all (fitS L) = true → ∀ r, getS L (bytesS L ys ++ r) = (getS L r).map (ys ++ ·)
  | [], _, _, r => by
    rw [show bytesS L [] = [] from rfl, List.nil_append, show (fun x : List (List Nat) => [] ++ x) = id from rfl, Option.map_id]; rfl
  | y :: ys, h, hf, r => by
    simp only [List.all_cons, Bool.and_eq_true] at hf
    have e : bytesS L (y :: ys) = packS L y ++ bytesS L ys := by simp [bytesS]
    rw [e, List.append_assoc, getS_pack hok hty (h y (List.mem_cons_self ..)) hf.1, getS_bytes (fun z hz => h z (List.mem_cons_of_mem _ hz)) hf.2, Option.map_map]
    exact congrArg (fun F => Option.map F (getS L r)) (funext fun x => by simp)
theorem got_cons {bs : List Nat} {ys : List (List Nat)} (h0 : bs ≠ []) (h : getS L bs = some ys) :
    ∃ zs, ys = dcS L (byB bs) :: zs ∧ tot (fS L (flB L (byB bs))) ≤ 8 * bs.length ∧ getS L (bs.drop (szN L (flB L (byB bs)))) = some zs := by
  rw [getS_cons hok hty h0] at h
  split at h
  · cases h
  · rename_i hc
    obtain ⟨zs, hz, rfl⟩ := Option.map_eq_some_iff.1 h
    exact ⟨zs, rfl, Nat.le_of_not_lt hc, hz⟩
theorem got_facts : ∀ (k : Nat) {bs : List Nat} {ys : List (List Nat)}, bs.length ≤ k → getS L bs = some ys → (∀ y ∈ ys, ShF y) ∧ ys.all (fitS L) = true ∧ (bytesS L ys).length = bs.length
  | 0, bs, ys, hk, h => by
    obtain rfl : bs = [] := List.length_eq_zero_iff.1 (by omega)
    rw [getS_nil] at h
    cases h
    exact ⟨fun _ h => absurd h List.not_mem_nil, rfl, rfl⟩
  | k + 1, bs, ys, hk, h => by
    by_cases h0 : bs = []
    · subst h0
      rw [getS_nil] at h
      cases h
      exact ⟨fun _ h => absurd h List.not_mem_nil, rfl, rfl⟩
    · obtain ⟨zs, rfl, ht, hz⟩ := got_cons hok hty h0 h
      have hb : 0 < bs.length := List.length_pos_iff.2 h0
      have h1 := (szN_pos hok hty (flB L (byB bs))).1
      have hsz : szN L (flB L (byB bs)) = (tot (fS L (flB L (byB bs))) + 7) / 8 := rfl
      obtain ⟨h2, h3, h4⟩ := got_facts k (by rw [List.length_drop]; omega) hz
      have hsh := dcS_shf L (byB bs)
      refine ⟨fun y hy => ?_, ?_, ?_⟩
      · rcases List.mem_cons.1 hy with rfl | hy
        · exact hsh
        · exact h2 y hy
      · rw [List.all_cons, dcS_fit, h3]; rfl
      · have e : bytesS L (dcS L (byB bs) :: zs) = packS L (dcS L (byB bs)) ++ bytesS L zs := by simp [bytesS]
        rw [e, List.length_append, h4, packS_len hsh, dcS_head, List.length_drop]
        generalize tot (fS L (flB L (byB bs))) = T at *
        generalize szN L (flB L (byB bs)) = m at *
        omega
theorem getS_append : ∀ (k : Nat) {a : List Nat} {ys : List (List Nat)}, a.length ≤ k → getS L a = some ys → ∀ b, getS L (a ++ b) = (getS L b).map (ys ++ ·)
  | 0, a, ys, hk, h, b => by
    obtain rfl : a = [] := List.length_eq_zero_iff.1 (by omega)
    rw [getS_nil] at h
    cases h
    rw [List.nil_append, show (fun x : List (List Nat) => [] ++ x) = id from rfl, Option.map_id]; rfl
  | k + 1, a, ys, hk, h, b => by
    by_cases h0 : a = []
    · subst h0
      rw [getS_nil] at h
      cases h
      rw [List.nil_append, show (fun x : List (List Nat) => [] ++ x) = id from rfl, Option.map_id]; rfl
    · obtain ⟨zs, rfl, ht, hz⟩ := got_cons hok hty h0 h
      have hb : 0 < a.length := List.length_pos_iff.2 h0
      have h1 := (szN_pos hok hty (flB L (byB a))).1
      have h8 := (fS_tot hok hty (flB L (byB a))).1
      have hsz : szN L (flB L (byB a)) = (tot (fS L (flB L (byB a))) + 7) / 8 := rfl
      have hbl := byB_len a
      have hfl : flB L (byB (a ++ b)) = flB L (byB a) := by
        unfold flB
        rw [byB_append, List.take_append_of_le_length (by omega)]
      have hdc : dcS L (byB (a ++ b)) = dcS L (byB a) := by
        unfold dcS
        rw [hfl, ← dec_take (k := 8 * a.length) (l := byB (a ++ b)) ht, byB_append, ← hbl, List.take_left]
      rw [getS_cons hok hty (by intro e; exact h0 (List.append_eq_nil_iff.1 e).1), hfl, hdc, if_neg (by rw [List.length_append]; omega), List.drop_append_of_le_length (by omega), getS_append k (a := a.drop (szN L (flB L (byB a)))) (by rw [List.length_drop]; omega) hz b, Option.map_map]
      exact congrArg (fun F => Option.map F (getS L b)) (funext fun x => by simp)
/-- of less than a whole record nothing is got -/
theorem getS_part {y : List Nat} (h : ShF y) (hf : fitS L y = true) {k : Nat} (h0 : 0 < k) (hk : k < szN L (y.headD 0)) : getS L ((packS L y).take k) = none := by
  have hl := packS_len (L := L) h
  have hlen : ((packS L y).take k).length = k := by rw [List.length_take, hl]; omega
  have hne : (packS L y).take k ≠ [] := by intro e; rw [e] at hlen; simp at hlen; omega
  obtain ⟨q, hq⟩ := byB_pack y []
  rw [List.append_nil] at hq
  have h8 := fS_tot hok hty (y.headD 0)
  have hfl : flB L (byB ((packS L y).take k)) = y.headD 0 := by
    have h1 := flB_pack h hf q
    rw [← hq] at h1
    rw [← h1]
    unfold flB
    rw [byB_take, List.take_take, Nat.min_eq_left (by omega)]
  rw [getS_cons hok hty hne, hfl, if_pos]
  rw [hlen]
  unfold szN at hk
  omega
/-- where a record stands -/
theorem got_at : ∀ (i : Nat) {bs : List Nat} {ys : List (List Nat)} {y : List Nat}, getS L bs = some ys → ys[i]? = some y →
    (bytesS L (ys.take i)).length + szN L (y.headD 0) ≤ bs.length ∧ encS L y = (byB (bs.drop (bytesS L (ys.take i)).length)).take (tot (fS L (y.headD 0)))
  | i, bs, ys, y, h, hy => by
    have h0 : bs ≠ [] := by
      intro e
      subst e
      rw [getS_nil] at h
      cases h
      simp at hy
    obtain ⟨zs, rfl, ht, hz⟩ := got_cons hok hty h0 h
    have hsh := dcS_shf L (byB bs)
    have hsz : szN L (flB L (byB bs)) = (tot (fS L (flB L (byB bs))) + 7) / 8 := rfl
    match i with
    | 0 =>
      obtain rfl : dcS L (byB bs) = y := by simpa using hy
      rw [List.take_zero, show bytesS L [] = [] from rfl, List.length_nil, List.drop_zero, dcS_head]
      refine ⟨by omega, ?_⟩
      unfold encS
      rw [dcS_head]
      exact enc_dec (fS_mm hok hty _) (by rw [byB_len]; exact ht)
    | i + 1 =>
      rw [List.getElem?_cons_succ] at hy
      obtain ⟨h1, h2⟩ := got_at i hz hy
      have e : bytesS L ((dcS L (byB bs) :: zs).take (i + 1)) = packS L (dcS L (byB bs)) ++ bytesS L (zs.take i) := by simp [bytesS]
      rw [e, List.length_append, packS_len hsh, dcS_head]
      rw [List.length_drop] at h1
      rw [List.drop_drop] at h2
      refine ⟨?_, h2⟩
      generalize tot (fS L (flB L (byB bs))) = T at *
      generalize szN L (flB L (byB bs)) = m at *
      omega
end
/-- a byte, and the same byte with some last bits off -/
theorem byte_rel {l : List Bool} {ch : List Nat} {T k b c : Nat} (hc : ∀ c ∈ ch, c < 256) (hT : T ≤ 8 * ch.length) (hT8 : 8 * ch.length < T + 8) (hl : l = (byB ch).take T) (hb : ch[k]? = some b) (hcc : (packB l)[k]? = some c) :
    ∃ r, r ≤ 7 ∧ (k + 1 < ch.length → r = 0) ∧ c = b / 2 ^ r * 2 ^ r := by
  have hk : k < ch.length := (List.getElem?_eq_some_iff.1 hb).1
  have hb256 := hc b (List.mem_of_getElem? hb)
  have hc256 := packB_lt l c (List.mem_of_getElem? hcc)
  have hll : l.length = T := by rw [hl, List.length_take, byB_len]; omega
  have one : ∀ {bs : List Nat} {x : Nat}, bs[k]? = some x → ((byB bs).drop (8 * k)).take 8 = bitsN 8 x := by
    intro bs x hx
    rw [← byB_drop, ← show 8 * 1 = 8 from rfl, ← byB_take, ← byB_one]
    congr 1
    have := (List.getElem?_eq_some_iff.1 hx)
    rw [List.drop_eq_getElem_cons this.1, this.2]
    rfl
  have e1 := one hb
  have e2 := one hcc
  rw [byB_packB, hll] at e2
  obtain ⟨m, hm⟩ : ∃ m, m = min 8 (T - 8 * k) := ⟨_, rfl⟩
  have hm8 : m ≤ 8 := by omega
  refine ⟨8 - m, by omega, fun h => by omega, ?_⟩
  have e3 : bitsN 8 c = bitsN m (b / 2 ^ (8 - m)) ++ List.replicate (8 - m) false := by
    have hsp := bitsN_add m b (8 - m)
    rw [show m + (8 - m) = 8 by omega] at hsp
    have hbm : (bitsN 8 b).take m = bitsN m (b / 2 ^ (8 - m)) := by
      rw [hsp, List.take_append_of_le_length (by rw [bitsN_len]; exact Nat.le_refl _), List.take_of_length_le (by rw [bitsN_len]; exact Nat.le_refl _)]
    rw [← e2, ← hbm, ← e1, hl]
    have hXl := byB_len ch
    generalize byB ch = X at *
    apply List.ext_getElem?
    intro i
    rw [List.getElem?_take]
    by_cases hi : i < 8
    · rw [if_pos hi, List.getElem?_drop]
      by_cases hm' : i < m
      · rw [List.getElem?_append_left (by rw [List.length_take]; omega), List.getElem?_take, if_pos (by omega), List.getElem?_append_left (by rw [List.length_take, List.length_take, List.length_drop]; omega), List.getElem?_take, if_pos hm', List.getElem?_take, if_pos hi, List.getElem?_drop]
      · rw [List.getElem?_append_right (by rw [List.length_take]; omega), List.getElem?_replicate, if_pos (by rw [List.length_take]; omega), List.getElem?_append_right (by rw [List.length_take, List.length_take, List.length_drop]; omega), List.getElem?_replicate, if_pos (by rw [List.length_take, List.length_take, List.length_drop]; omega)]
    · rw [if_neg hi, List.getElem?_eq_none]
      rw [List.length_append, List.length_take, List.length_take, List.length_drop, List.length_replicate]
      omega
  have h1 := congrArg num e3
  rw [num_bitsN, num_append, num_bitsN, num_zeros, List.length_replicate, Nat.add_zero] at h1
  have h2 : b / 2 ^ (8 - m) < 2 ^ m := by
    rw [Nat.div_lt_iff_lt_mul (Nat.two_pow_pos _), ← Nat.pow_add, show m + (8 - m) = 8 by omega]
    exact hb256
  rw [Nat.mod_eq_of_lt (show c < 2 ^ 8 from hc256), Nat.mod_eq_of_lt h2] at h1
  exact h1
theorem byte_off : ∀ (b : Fin 256) (r : Fin 8), (b.1 ^^^ (b.1 / 2 ^ r.1 * 2 ^ r.1)) &&& 128 = 0 ∧ (b.1 / 2 ^ r.1 * 2 ^ r.1) &&& (b.1 ^^^ (b.1 / 2 ^ r.1 * 2 ^ r.1)) = 0 ∧ (r.1 = 0 → b.1 ^^^ (b.1 / 2 ^ r.1 * 2 ^ r.1) = 0) := by decide +kernel
end Go.Proofs.YtjdaglmkljbfkaaDoor
namespace Go.Proofs.YtjdaglmkljbfkaaDoor
open Go Go.Gx Go.RowKit
set_option maxRecDepth 100000
def ofB (f n : Nat) : List Nat := f :: List.replicate n 7
theorem ofB_len (f n : Nat) : (ofB f n).length = n + 1 := by simp [ofB]
theorem ofB_lt {f n : Nat} (h : f < 256) : ∀ c ∈ ofB f n, c < 256 := by
  intro c hc
  rcases List.mem_cons.1 hc with rfl | hc
  · exact h
  · have := List.eq_of_mem_replicate hc; omega
def L11 : Lay := { ty := 6, co := 8, cm := 8, fl := 8, cs := 1, ro := 0, r := fun _ => 0 }
def L11b : Lay := { L11 with ty := 4 }
def y11 : List Nat := 1 :: (List.replicate 16 7 ++ List.replicate 16 0 ++ [7, 0, 0, 0, 7, 0, 0, 0] ++ List.replicate 8 0)
def z11 : List Nat := y11.set 17 1
theorem l11_1 : errG L11 (ofB 1 18) = 0 ∧ outG L11 (ofB 1 18) = [y11] := by decide +kernel
theorem l11_2 : errG L11 (ofB 1 17) = 5 := by decide +kernel
theorem l11_3 : errG L11 (ofB 0 28) = 0 ∧ (outG L11 (ofB 0 28)).length = 1 := by decide +kernel
theorem l11_4 : errG L11 (ofB 0 28 ++ [3]) = 5 := by decide +kernel
theorem l11_5 : errP L11b [] = 4 := by decide +kernel
theorem l11_6 : errP L11 [z11] = 1 := by decide +kernel
theorem shf_y11 : ShF y11 := ⟨1, y11.tail, rfl, by decide, rfl, fun {p x} h _ => by
    have := List.mem_of_getElem? h
    have : ∀ x ∈ y11.tail, x < 65536 := by decide
    exact Nat.lt_trans (this x (List.mem_of_getElem? h)) (by decide), fun {p x} h _ => by
    have : ∀ x ∈ y11.tail, x < 65536 := by decide
    exact this x (List.mem_of_getElem? h)⟩
theorem shf_z11 : ShF z11 := ⟨1, z11.tail, rfl, by decide, rfl, fun {p x} h _ => by
    have : ∀ x ∈ z11.tail, x < 65536 := by decide
    exact Nat.lt_trans (this x (List.mem_of_getElem? h)) (by decide), fun {p x} h _ => by
    have : ∀ x ∈ z11.tail, x < 65536 := by decide
    exact this x (List.mem_of_getElem? h)⟩
def c11 : List Value := shV y11
theorem eqCol : EqOk Tryd.prog 65 colK := ⟨by kernel_rfl, by kernel_rfl, by kernel_rfl, by kernel_rfl⟩
end Go.Proofs.YtjdaglmkljbfkaaDoor
namespace Go.Proofs.YtjdaglmkljbfkaaDoor
open Go Go.Gx Go.RowKit Go.ChangeShapes Go.WideShapes Go.ChangeAt
set_option maxRecDepth 100000

def laid11 : List (String × DataW Unit) := [("gouache/layouts.sets", Rows.laid_gouache_layouts_sets)]
theorem laid11_met {W : World} (h : laidMetH Tryd.prog laid11 W) : laidMet Tryd.prog laid11 W := by
  rw [MakeChecks.laidMetH_plain _ _ _ (by kernel_rfl)] at h
  exact h
theorem door11 (os : Os) (args : Array Value) : laidMetH Tryd.prog laid11 ((World.doorLaid Tryd.prog 400 os).forCall (fun _ _ => 0) ⟨#[], args, []⟩).memory :=
  laidMetH_of_parts3 (fuel := 8) (laidMet_of_run' 8 (by kernel_rfl) (by kernel_rfl)) (by kernel_rfl) (by kernel_rfl)
theorem sets11 {W : World} (h : laidMetH Tryd.prog laid11 W) : Sets W := sets_of (laid11_met h) (List.mem_cons_self ..)
theorem flat_Byte : flat Tryd.prog 8 5 = some byteK := by kernel_rfl
theorem open_bytesB {H : Type} {enc : TypeId × Value → H} {W : World} {base b0 : Nat} {spare : Nat → Bool} {held : Bool} {r : Reach} {v : Value} {d : DataW H} {p : List MemPlace}
    (hv : Value.okWide Tryd.prog W r b0 28 v) (h : DataW.Trod enc Tryd.prog W base spare held 28 v d p) (hw : ∀ m ∈ d.weights Tryd.prog 28, m ≤ reachBytes) :
    ∃ bs : List Nat, SlA (St W []) v 1 bs.length (byV bs) ∧ (∀ c ∈ bs, c < 256) ∧ bs.length ≤ 140737488351232 := by
  obtain ⟨n, xs, hs, hi, hn⟩ := open_slw Tryd.underlying28 flat_Byte (by decide) (show Tryd.prog.bytesOf 5 = 1 by kernel_rfl) hv h hw
  obtain ⟨bs, rfl, rfl, hb⟩ := byV_of hi
  exact ⟨bs, hs, hb, by omega⟩
theorem flat_Sheet : flat Tryd.prog 8 79 = some sheetK := by kernel_rfl
theorem wfU {k : IntKind} {z : Int} (hk : k = .u8 ∨ k = .u16 ∨ k = .u32) (h : (Lit.int k z).wf = true) : ∃ x : Nat, z = (x : Int) ∧ x < (if k = .u8 then 256 else if k = .u16 then 65536 else 4294967296) := by
  simp only [Lit.wf, Bool.and_eq_true, decide_eq_true_eq] at h
  rcases hk with rfl | rfl | rfl
  · have h1 : IntKind.u8.min = 0 := rfl
    have h2 : IntKind.u8.max = 255 := rfl
    exact ⟨z.toNat, by omega, by rw [if_pos rfl]; omega⟩
  · have h1 : IntKind.u16.min = 0 := rfl
    have h2 : IntKind.u16.max = 65535 := rfl
    exact ⟨z.toNat, by omega, by rw [if_neg (by decide), if_pos rfl]; omega⟩
  · have h1 : IntKind.u32.min = 0 := rfl
    have h2 : IntKind.u32.max = 4294967295 := rfl
    exact ⟨z.toNat, by omega, by rw [if_neg (by decide), if_neg (by decide)]; omega⟩
theorem ints_nat : ∀ {ks : List IntKind} {cs : List Value}, (∀ k ∈ ks, k = .u8 ∨ k = .u16 ∨ k = .u32) → Ints ks cs →
    ∃ xs : List Nat, xs.length = ks.length ∧ cs = List.zipWith (fun (k : IntKind) (x : Nat) => Value.int k (x : Int)) ks xs ∧ ∀ (p : Nat) (k : IntKind) (x : Nat), ks[p]? = some k → xs[p]? = some x → x < (if k = .u8 then 256 else if k = .u16 then 65536 else 4294967296)
  | [], cs, _, h => ⟨[], rfl, by rw [h.inv_nil]; rfl, fun p k x h => by simp at h⟩
  | k :: ks, cs, hk, h => by
    obtain ⟨z, cs', rfl, hw, hr⟩ := h.inv
    clear h
    obtain ⟨x, rfl, hx⟩ := wfU (hk k (List.mem_cons_self ..)) hw
    obtain ⟨xs, h1, rfl, h3⟩ := ints_nat (fun q hq => hk q (List.mem_cons_of_mem _ hq)) hr
    refine ⟨x :: xs, by simp [h1], rfl, fun p => ?_⟩
    cases p with
    | zero => intro k' x' e1 e2; cases e1; cases e2; exact hx
    | succ p => intro k' x' e1 e2; exact h3 p k' x' e1 e2
theorem sheet_of {cs : List Value} (h : Ints sheetK cs) : ∃ y, ShF y ∧ cs = shV y := by
  obtain ⟨xs, h1, rfl, h3⟩ := ints_nat (ks := sheetK) (by decide) h
  rw [sheetK_len] at h1
  obtain ⟨x0, X, rfl⟩ : ∃ x0 X, xs = x0 :: X := by
    cases xs with
    | nil => simp at h1
    | cons a b => exact ⟨a, b, rfl⟩
  rw [List.length_cons] at h1
  refine ⟨_, ⟨x0, X, rfl, ?_, ⟨by omega, fun {p x} hx hp => ?_, fun {p x} hx hp => ?_⟩⟩, rfl⟩
  · exact h3 0 .u8 x0 rfl rfl
  · have := h3 (p + 1) (skK (p + 1)) x (sheetK_at (by omega)) (by rw [List.getElem?_cons_succ]; exact hx)
    rw [show skK (p + 1) = .u32 by unfold skK; rw [if_neg (by omega), if_pos (by omega)]] at this
    simpa using this
  · have hl := (List.getElem?_eq_some_iff.1 hx).1
    have := h3 (p + 1) (skK (p + 1)) x (sheetK_at (by omega)) (by rw [List.getElem?_cons_succ]; exact hx)
    rw [show skK (p + 1) = .u16 by unfold skK; rw [if_neg (by omega), if_neg (by omega)]] at this
    simpa using this
theorem sheets_of : ∀ {n : Nat} {xs : List Value}, Ints (rep n sheetK) xs → ∃ ys : List (List Nat), ys.length = n ∧ xs = flatS ys ∧ ∀ y ∈ ys, ShF y
  | 0, xs, h => by
    obtain rfl := Ints.inv_nil (show Ints [] xs from h)
    exact ⟨[], rfl, rfl, fun _ h => absurd h List.not_mem_nil⟩
  | n + 1, xs, h => by
    have e : rep (n + 1) sheetK = sheetK ++ rep n sheetK := by simp [rep, List.replicate_succ]
    rw [e] at h
    obtain ⟨h1, h2⟩ := h.split
    obtain ⟨y, hy, e1⟩ := sheet_of h1
    obtain ⟨ys, hl, e2, hys⟩ := sheets_of h2
    refine ⟨y :: ys, by simp [hl], ?_, fun z hz => ?_⟩
    · have : flatS (y :: ys) = shV y ++ flatS ys := by simp [flatS]
      rw [this, ← e1, ← e2, List.take_append_drop]
    · rcases List.mem_cons.1 hz with rfl | hz
      · exact hy
      · exact hys z hz
theorem flatS_ints : ∀ {ys : List (List Nat)}, (∀ y ∈ ys, ShF y) → Ints (rep ys.length sheetK) (flatS ys)
  | [], _ => .nil
  | y :: ys, h => by
    have e : flatS (y :: ys) = shV y ++ flatS ys := by simp [flatS]
    have e2 : rep (y :: ys).length sheetK = sheetK ++ rep ys.length sheetK := by simp [rep, List.replicate_succ]
    rw [e, e2]
    exact (shV_ints (h y (List.mem_cons_self ..))).append (flatS_ints fun z hz => h z (List.mem_cons_of_mem _ hz))
theorem open_sheets {w0 : Base} {sv : Value} {n : Nat} {xs : List Value} (hs : SlA (St w0 []) sv 49 n xs) (hi : Ints (rep n sheetK) xs) : ∃ ys, ys.length = n ∧ SlA (St w0 []) sv 49 ys.length (flatS ys) ∧ ∀ y ∈ ys, ShF y := by
  obtain ⟨ys, hl, rfl, ha⟩ := sheets_of hi
  exact ⟨ys, hl, by rw [hl]; exact hs, ha⟩
end Go.Proofs.YtjdaglmkljbfkaaDoor
namespace Go.Proofs.YtjdaglmkljbfkaaDoor
open Go Go.Gx Go.RowKit
set_option maxRecDepth 100000

end Go.Proofs.YtjdaglmkljbfkaaDoor
namespace Go.Proofs.YtjdaglmkljbfkaaDoor
open Go Go.Gx Go.RowKit
set_option maxRecDepth 100000
def mkB : List Value := [.int .u8 171, .int .u8 171, .int .u8 171]
theorem sameOk_Sheets (w0 : Base) (η : Heap) (va vb : Value) (n : Nat) (xs : List Value) (ha : SlA (St w0 η) va 49 n xs) (hb : SlA (St w0 η) vb 49 n xs) (hi : Ints (rep n sheetK) xs) :
    CallsT Tryd.prog 18 [va, vb] (St w0 η) fun v A' => v = .bool true ∧ A' = St w0 η := by
  have h := same_Sheets w0 η va vb n n xs xs ha hb hi hi
  rwa [eqC_refl hi] at h
theorem twinFragS {e b n : Nat} {xs mk : List Value} (hx : xs.length = n * 49) (hm : mk.length = 49) (hn : n ≤ 1000000) : Frag e 49 (.slice (some ⟨b, 0, none⟩) n (n + 3)) n xs [(b, e, xs ++ (mk ++ (mk ++ mk)))] :=
  ⟨hx, .inr ⟨b, n + 3, mk ++ (mk ++ mk), rfl, ⟨by omega, by omega⟩, by simp only [List.length_append, hx, hm]; omega, rfl⟩⟩
theorem twinFragB {b n : Nat} {xs : List Value} (hx : xs.length = n * 1) (hn : n ≤ 1000000) : Frag 5 1 (.slice (some ⟨b, 0, none⟩) n (n + 3)) n xs [(b, 5, xs ++ mkB)] :=
  ⟨hx, .inr ⟨b, n + 3, mkB, rfl, ⟨by omega, by omega⟩, by simp only [List.length_append, hx, mkB, List.length_cons, List.length_nil]; omega, rfl⟩⟩
theorem newCells : Bk.new.cells = [.int .i64 0, .slice none 0 0, .slice none 0 0, .slice none 0 0, .slice none 0 0, .slice none 0 0, .slice none 0 0, .slice none 0 0, .slice none 0 0, .slice none 0 0, .slice none 0 0, .slice none 0 0, .slice none 0 0, .slice none 0 0] := rfl
theorem bytesS_ge {L : Lay} (hk : okB L = true) (hty : L.ty = 6 ∨ L.ty = 7) : ∀ {ys : List (List Nat)}, (∀ y ∈ ys, ShF y) → ys.length ≤ (bytesS L ys).length
  | [], _ => by simp
  | y :: ys, h => by
    have h1 := packS_len (L := L) (h y (List.mem_cons_self ..))
    have h2 := (szN_pos hk hty (y.headD 0)).1
    have h3 := bytesS_ge hk hty (ys := ys) fun z hz => h z (List.mem_cons_of_mem _ hz)
    have e : bytesS L (y :: ys) = packS L y ++ bytesS L ys := by simp [bytesS]
    rw [e, List.length_append, List.length_cons]
    omega
theorem errG_zero {L : Lay} {bs : List Nat} (h : errG L bs = 0) : (okB L = true ∧ 6 ≤ L.ty) ∧ bs.length ≤ 65536 ∧ getS L bs = some (outG L bs) := by
  have h0 := h
  unfold errG at h
  split at h
  · rename_i hc
    split at h
    · exact absurd h (by decide)
    · rename_i hl
      cases hg : getS L bs with
      | none => rw [hg] at h; exact absurd h (by decide)
      | some ys => exact ⟨hc, by omega, by rw [(errG_ok hc hl hg).2]⟩
  · exact absurd h (by decide)
theorem outG_len (L : Lay) (bs : List Nat) : (outG L bs).length ≤ bs.length := by
  by_cases h : errG L bs = 0
  · obtain ⟨hc, _, hg⟩ := errG_zero h
    obtain ⟨h1, _, h2⟩ := got_facts hc.1 (ty67 hc) bs.length (Nat.le_refl _) hg
    have := bytesS_ge hc.1 (ty67 hc) h1
    omega
  · rw [outG_bad h]; exact Nat.zero_le _
theorem outP_lt (L : Lay) (ys : List (List Nat)) : ∀ c ∈ outP L ys, c < 256 := by
  intro c hc
  unfold outP at hc
  split at hc
  · exact bytesS_lt L ys c hc
  · exact absurd hc List.not_mem_nil
theorem outP_len (L : Lay) (ys : List (List Nat)) : (outP L ys).length ≤ 65536 := by
  unfold outP
  split
  · rename_i h
    unfold errP at h
    split at h
    · split at h
      · split at h
        · exact absurd h (by decide)
        · omega
      · exact absurd h (by decide)
    · exact absurd h (by decide)
  · exact Nat.zero_le _
end Go.Proofs.YtjdaglmkljbfkaaDoor
namespace Go.Proofs.YtjdaglmkljbfkaaDoor
open Go Go.Gx Go.RowKit
set_option maxRecDepth 100000
theorem put_ok {L : Lay} {ys : List (List Nat)} (hc : okB L = true ∧ 6 ≤ L.ty) (hf : ys.all (fitS L) = true) (hl : (bytesS L ys).length ≤ 65536) : errP L ys = 0 ∧ outP L ys = bytesS L ys := by
  have e : errP L ys = 0 := by unfold errP; rw [if_pos hc, if_pos hf, if_neg (by omega)]
  exact ⟨e, by unfold outP; rw [if_pos e]⟩
theorem get_ok {L : Lay} {ys : List (List Nat)} (hc : okB L = true ∧ 6 ≤ L.ty) (hy : ∀ y ∈ ys, ShF y) (hf : ys.all (fitS L) = true) (hl : (bytesS L ys).length ≤ 65536) : errG L (bytesS L ys) = 0 ∧ outG L (bytesS L ys) = ys := by
  have h := getS_bytes hc.1 (ty67 hc) hy hf []
  rw [List.append_nil, getS_nil] at h
  exact errG_ok hc (by omega) (h.trans (by simp))
theorem xor_u8 {a b : Nat} (ha : a < 256) (hb : b < 256) : bitsOf .xor .u8 (a : Int) (b : Int) = ((a ^^^ b : Nat) : Int) := by
  have h : (a ^^^ b) < 2 ^ 8 := Nat.xor_lt_two_pow (show a < 2 ^ 8 from ha) (show b < 2 ^ 8 from hb)
  show IntKind.u8.wrap ((BitVec.ofInt 8 (a : Int) ^^^ BitVec.ofInt 8 (b : Int)).toNat : Int) = _
  rw [BitVec.toNat_xor, ofInt_u8 a ha, ofInt_u8 b hb]
  exact IntWalk.u8_in ((a ^^^ b : Nat) : Int) ⟨by omega, by omega⟩
/-- a record, byte by byte -/
theorem rec_rel {L : Lay} (hc : okB L = true ∧ 6 ≤ L.ty) {bs : List Nat} {ys : List (List Nat)} {y : List Nat} {i j : Nat} (hb : ∀ c ∈ bs, c < 256) (hg : getS L bs = some ys) (hy : ys[i]? = some y) (hj : j < szN L (y.headD 0)) :
    ∃ b r, r ≤ 7 ∧ (j + 1 < szN L (y.headD 0) → r = 0) ∧ b < 256 ∧ bs[(bytesS L (ys.take i)).length + j]? = some b ∧ (bytesS L ys)[(bytesS L (ys.take i)).length + j]? = some (b / 2 ^ r * 2 ^ r) := by
  have hty := ty67 hc
  obtain ⟨h1, h2⟩ := got_at hc.1 hty i hg hy
  have hsh := (got_facts hc.1 hty bs.length (Nat.le_refl _) hg).1
  have hyF := hsh y (List.mem_of_getElem? hy)
  have hpl := packS_len (L := L) hyF
  obtain ⟨at', hat⟩ : ∃ a, a = (bytesS L (ys.take i)).length := ⟨_, rfl⟩
  rw [← hat] at h1 h2 ⊢
  have hn : szN L (y.headD 0) = (tot (fS L (y.headD 0)) + 7) / 8 := rfl
  obtain ⟨ch, hch⟩ : ∃ ch, ch = (bs.drop at').take (szN L (y.headD 0)) := ⟨_, rfl⟩
  have hcl : ch.length = szN L (y.headD 0) := by rw [hch, List.length_take, List.length_drop]; omega
  have hcb : ∀ c ∈ ch, c < 256 := fun c hx => hb c (by rw [hch] at hx; exact List.mem_of_mem_drop (List.mem_of_mem_take hx))
  have hl : encS L y = (byB ch).take (tot (fS L (y.headD 0))) := by
    rw [h2, hch, byB_take, List.take_take, Nat.min_eq_left (by omega)]
  obtain ⟨b, hbj⟩ : ∃ b, ch[j]? = some b := ⟨_, List.getElem?_eq_getElem (by omega)⟩
  obtain ⟨c, hcj⟩ : ∃ c, (packS L y)[j]? = some c := ⟨_, List.getElem?_eq_getElem (by omega)⟩
  obtain ⟨r, hr1, hr2, hr3⟩ := byte_rel hcb (by rw [hcl]; omega) (by rw [hcl]; omega) hl hbj hcj
  have hb1 : bs[at' + j]? = some b := by
    rw [hch, List.getElem?_take, if_pos (by omega), List.getElem?_drop] at hbj
    exact hbj
  refine ⟨b, r, hr1, by rw [← hcl]; exact hr2, hcb b (List.mem_of_getElem? hbj), hb1, ?_⟩
  have hi : i < ys.length := (List.getElem?_eq_some_iff.1 hy).1
  have hsp : ys = ys.take i ++ (y :: ys.drop (i + 1)) := by
    rw [← (List.getElem?_eq_some_iff.1 hy).2, ← List.drop_eq_getElem_cons hi, List.take_append_drop]
  have e : bytesS L ys = bytesS L (ys.take i) ++ (packS L y ++ bytesS L (ys.drop (i + 1))) := by
    conv => lhs; rw [hsp]
    rw [bytesS_append]; simp [bytesS]
  rw [e, List.getElem?_append_right (by omega), List.getElem?_append_left (by omega), ← hat, show at' + j - at' = j by omega, hcj, hr3]
end Go.Proofs.YtjdaglmkljbfkaaDoor
namespace Go.Proofs.YtjdaglmkljbfkaaDoor
open Go Go.Gx Go.RowKit
set_option maxRecDepth 100000

def All7 (rs : List (List Value)) : Prop := ∀ r ∈ rs, Ints recK r
theorem recs_of : ∀ {n : Nat} {xs : List Value}, Ints (rep n recK) xs → ∃ rs : List (List Value), xs = rs.flatten ∧ rs.length = n ∧ All7 rs
  | 0, xs, h => by
    rw [show rep 0 recK = [] from rfl] at h
    obtain rfl := h.inv_nil
    exact ⟨[], rfl, rfl, fun _ h => absurd h List.not_mem_nil⟩
  | n + 1, xs, h => by
    rw [rep_succ] at h
    obtain ⟨h1, h2⟩ := h.split
    obtain ⟨rs, hrs, hl, ha⟩ := recs_of h2
    exact ⟨xs.take recK.length :: rs, by rw [List.flatten_cons, ← hrs, List.take_append_drop], by rw [List.length_cons, hl], fun r hr => by
      rcases List.mem_cons.1 hr with rfl | hr
      · exact h1
      · exact ha r hr⟩
theorem flat_ints {s : Nat} {ks : List IntKind} : ∀ {rs : List (List Value)}, (∀ r ∈ rs, Ints ks r) → Ints (rep rs.length ks) rs.flatten
  | [], _ => by simpa [rep] using Ints.nil
  | r :: rs, h => by
    rw [List.length_cons, rep_succ, List.flatten_cons]
    exact (h r (List.mem_cons_self ..)).append (flat_ints (s := s) fun x hx => h x (List.mem_cons_of_mem _ hx))
theorem flat_len {s : Nat} : ∀ {rs : List (List Value)}, (∀ r ∈ rs, r.length = s) → rs.flatten.length = rs.length * s
  | [], _ => by simp
  | r :: rs, h => by
    rw [List.flatten_cons, List.length_append, h r (List.mem_cons_self ..), flat_len fun x hx => h x (List.mem_cons_of_mem _ hx), List.length_cons, Nat.add_mul]; omega
theorem flat_at {s : Nat} : ∀ {rs : List (List Value)} {i : Nat} {r : List Value}, (∀ r ∈ rs, r.length = s) → rs[i]? = some r → (rs.flatten.drop (i * s)).take s = r ∧ i * s + s ≤ rs.flatten.length
  | [], i, r, _, h => by simp at h
  | x :: rs, 0, r, hs, h => by
    simp only [List.getElem?_cons_zero, Option.some.injEq] at h
    subst h
    have hl := hs x (List.mem_cons_self ..)
    rw [Nat.zero_mul, List.drop_zero, List.flatten_cons, ← hl, List.take_left]
    exact ⟨rfl, by rw [List.length_append]; omega⟩
  | x :: rs, i + 1, r, hs, h => by
    have hl := hs x (List.mem_cons_self ..)
    have ih := flat_at (rs := rs) (i := i) (r := r) (fun y hy => hs y (List.mem_cons_of_mem _ hy)) (by simpa using h)
    rw [List.flatten_cons, show (i + 1) * s = x.length + i * s by rw [hl, Nat.add_mul]; omega, ← List.drop_drop, List.drop_left]
    exact ⟨ih.1, by rw [List.length_append]; omega⟩
theorem flat_drop {s : Nat} : ∀ {rs : List (List Value)} {k : Nat}, (∀ r ∈ rs, r.length = s) → rs.flatten.drop (k * s) = (rs.drop k).flatten
  | _, 0, _ => by simp
  | [], k + 1, _ => by simp
  | x :: rs, k + 1, hs => by
    have hl := hs x (List.mem_cons_self ..)
    rw [List.flatten_cons, show (k + 1) * s = x.length + k * s by rw [hl, Nat.add_mul]; omega, ← List.drop_drop, List.drop_left, List.drop_succ_cons]
    exact flat_drop fun y hy => hs y (List.mem_cons_of_mem _ hy)
theorem All7.len {rs : List (List Value)} (h : All7 rs) : ∀ r ∈ rs, r.length = 7 := fun r hr => (h r hr).length
theorem All7.drop {rs : List (List Value)} (h : All7 rs) (k : Nat) : All7 (rs.drop k) := fun r hr => h r (List.mem_of_mem_drop hr)

/-- a vertex's flag; a vertex without it -/
def flagR (r : List Value) : Nat := match r with
  | .int _ z :: _ => z.toNat
  | _ => 0
def bareR (r : List Value) : List Value := match r with
  | _ :: t => .int .u8 0 :: t
  | [] => []
theorem flagR_spec {r : List Value} (h : Ints recK r) : r[0]? = some (.int .u8 (flagR r : Int)) ∧ flagR r ≤ 255 := by
  obtain ⟨z, cs, rfl, hw, _⟩ := (show Ints (.u8 :: recK.tail) r from h).inv
  have hz := wf_u8 hw
  have hf : flagR (.int .u8 z :: cs) = z.toNat := rfl
  rw [hf]
  refine ⟨?_, by omega⟩
  show some (Value.int .u8 z) = _
  rw [Int.toNat_of_nonneg hz.1]
theorem bareR_ints {r : List Value} (h : Ints recK r) : Ints recK (bareR r) := by
  obtain ⟨z, cs, rfl, hw, h2⟩ := (show Ints (.u8 :: recK.tail) r from h).inv
  exact .cons (by decide) h2
theorem bareR_len (r : List Value) : (bareR r).length = r.length := by cases r <;> rfl
def T3 (a b c : List Value) : List Value := a ++ (b ++ c)
theorem T3_ints {a b c : List Value} (ha : Ints recK a) (hb : Ints recK b) (hc : Ints recK c) : Ints triK (T3 a b c) := by
  have e : triK = recK ++ (recK ++ recK) := by decide
  rw [e]; exact ha.append (hb.append hc)
theorem T3_len {a b c : List Value} (ha : a.length = 7) (hb : b.length = 7) (hc : c.length = 7) : (T3 a b c).length = 21 := by simp [T3, ha, hb, hc]
theorem T3_at {a b c : List Value} (ha : a.length = 7) (hb : b.length = 7) (hc : c.length = 7) : ((T3 a b c).drop (0 * 7)).take 7 = a ∧ ((T3 a b c).drop (1 * 7)).take 7 = b ∧ ((T3 a b c).drop (2 * 7)).take 7 = c := by
  obtain ⟨f, rfl⟩ := tab' (.bool false) a ha
  obtain ⟨g, rfl⟩ := tab' (.bool false) b hb
  obtain ⟨h, rfl⟩ := tab' (.bool false) c hc
  exact ⟨rfl, rfl, rfl⟩
theorem seg3 {a b c zl : List Value} (ha : a.length = 7) (hb : b.length = 7) (hc : c.length = 7) (hz : zl = zs triK) : segs ((List.range 3).map fun i => (i * 7, 7)) zl [(0, .agg a.toArray), (1, .agg b.toArray), (2, .agg c.toArray)] 0 = some (T3 a b c) := by
  subst hz
  obtain ⟨f, rfl⟩ := tab' (.bool false) a ha
  obtain ⟨g, rfl⟩ := tab' (.bool false) b hb
  obtain ⟨h, rfl⟩ := tab' (.bool false) c hc
  kernel_rfl
def bK (t : List Value) : Nat → List Value
  | 0 => t
  | k + 1 => setAt (bK t k) (0 + k * 7 + 0) [.int .u8 0]
theorem bK_len (t : List Value) : ∀ k, (bK t k).length = t.length
  | 0 => rfl
  | k + 1 => by rw [bK, setAt_length, bK_len t k]
theorem bK_eq {a b c : List Value} (ha : a.length = 7) (hb : b.length = 7) (hc : c.length = 7) : bK (T3 a b c) 3 = T3 (bareR a) (bareR b) (bareR c) := by
  obtain ⟨f, rfl⟩ := tab' (.bool false) a ha
  obtain ⟨g, rfl⟩ := tab' (.bool false) b hb
  obtain ⟨h, rfl⟩ := tab' (.bool false) c hc
  kernel_rfl

theorem bare_spec (w0 : Base) (η : Heap) (a b c : List Value) (ha : Ints recK a) (hb : Ints recK b) (hc : Ints recK c) :
    CallsT Tryd.prog 66 [.agg (T3 a b c).toArray] (St w0 η) fun v A' => v = .agg (T3 (bareR a) (bareR b) (bareR c)).toArray ∧ A' = St w0 η := by
  have hTl : (T3 a b c).length = 21 := T3_len ha.length hb.length hc.length
  have hi := T3_ints (bareR_ints ha) (bareR_ints hb) (bareR_ints hc)
  have hsz : Sz Tryd.prog 69 (T3 (bareR a) (bareR b) (bareR c)).length := by rw [hi.length]; exact YtjdaglmkljbfkaaDoorF.sz_69
  refine CallsT.body Tryd.func66 rfl rfl ?_
  simp only [Tryd.ntmps66, slotsOf, Nat.reduceAdd]
  refine TC_seq ?_
  refine TC_reg ?_
  refine TL_e rfl rfl rfl (rfl) (ET_box rfl rfl) ?_
  rintro _ _ ⟨b1, rfl, rfl⟩
  refine TL_e rfl rfl rfl (rfl) (ET_alloc rfl YtjdaglmkljbfkaaDoorF.zero_69) ?_
  rintro _ _ ⟨b2, rfl, rfl⟩
  refine TL_nil ?_
  refine TX_then ?_
  refine TC_seq ?_
  refine TC_seq ?_
  refine TC_reg ?_
  refine TL_q rfl rfl (QT_move rfl rfl rfl) ?_
  refine TL_nil ?_
  refine TX_then ?_
  refine TC_block ?_
  refine TC_loop (γ := { k : Nat // k ≤ 3 }) (fun t => [(1, true, .pointer (some ⟨b1, 0, none⟩)), (2, true, .pointer (some ⟨b2, 0, none⟩)), (4, true, .int .i64 (t.1 : Int))]) (fun t => St w0 ((b2, 69, zs triK) :: (b1, 69, bK (T3 a b c) t.1) :: η)) (fun t => 3 - t.1) ⟨0, by omega⟩ ⟨rfl, rfl, rfl, trivial⟩ (fun _ h => h) ?_
  rintro ⟨k, hk⟩
  dsimp only
  have hql := bK_len (T3 a b c) k
  refine TC_seq ?_
  refine TC_reg ?_
  refine TL_q rfl rfl (QT_lss rfl rfl rfl rfl) ?_
  refine TL_nil ?_
  refine TX_then ?_
  refine TC_seq ?_
  first
    | refine TC_cond_dec rfl (fun h5 => ?_) (fun h5 => ?_)
    | refine TC_cond rfl (fun h5 => ?_) (fun h5 => ?_)
  ·
    refine TC_skip ?_
    refine TX_then ?_
    refine TC_seq ?_
    refine TC_block ?_
    refine TC_seq ?_
    refine TC_reg ?_
    refine TL_q rfl rfl (QT_move rfl rfl rfl) ?_
    refine TL_q rfl rfl (QT_assign rfl rfl rfl) ?_
    refine TL_nil ?_
    refine TX_then ?_
    refine TC_reg ?_
    refine TL_q rfl rfl (QT_move rfl rfl rfl) ?_
    refine TL_q rfl rfl (QT_indexArr (k) rfl rfl Tryd.underlying69 YtjdaglmkljbfkaaDoorF.sz_67 rfl rfl (rfl) (fun _ => by omega)) ?_
    refine TL_q rfl rfl (QT_field rfl rfl YtjdaglmkljbfkaaDoorF.fld_67_0 rfl) ?_
    refine TL_e0 rfl rfl (rfl) (ET_store (vs := [.int .u8 0]) 1 rfl rfl rfl rfl YtjdaglmkljbfkaaDoorF.sz_5 rfl rfl (Nat.ble_eq_true_of_le (by rw [hql, hTl]; show 0 + k * 7 + 0 + 1 ≤ 21; omega))) ?_
    rintro _ _ ⟨rfl, rfl⟩
    refine TL_nil ?_
    refine TX_block_normal ?_
    refine TX_then ?_
    refine TC_reg ?_
    refine TL_q rfl rfl (QT_add rfl rfl rfl rfl (fun _ => ⟨by omega, by omega⟩)) ?_
    refine TL_q rfl rfl (QT_move rfl rfl rfl) ?_
    refine TL_nil ?_
    exact TX_round ⟨k + 1, by omega⟩ (by show 3 - (k + 1) < 3 - k; omega) ⟨rfl, rfl, rfl, trivial⟩ (fun _ h => h)
  ·
    refine TC_exit ?_
    refine TX_then_exit ?_
    refine TX_then_exit ?_
    refine TX_block_here ?_
    refine TX_then ?_
    refine TC_seq ?_
    obtain rfl : k = 3 := by omega
    refine TC_A (St w0 ((b2, 69, zs triK) :: (b1, 69, T3 (bareR a) (bareR b) (bareR c)) :: η)) (fun w h => by rw [← bK_eq ha.length hb.length hc.length]; exact h) ?_
    refine TC_reg ?_
    refine TL_q rfl rfl (QT_loadW (cs := T3 (bareR a) (bareR b) (bareR c)) 1 rfl rfl Tryd.underlying69 rfl rfl rfl hsz) ?_
    refine TL_e0 rfl rfl (rfl) (ET_storeW (vs := T3 (bareR a) (bareR b) (bareR c)) 0 rfl rfl rfl hsz rfl (List.all_eq_true.2 hi.oneCell) (by rw [hi.length]; rfl)) ?_
    rintro _ _ ⟨rfl, rfl⟩
    refine TL_nil ?_
    refine TX_then ?_
    refine TC_ret ?_
    exact TX_ret (.inl rfl) (resC 0 rfl rfl Tryd.underlying69 rfl rfl hsz) ⟨_, ⟨rfl, rfl⟩, (fun _ h => by first | exact h | exact h.tail | exact h.tail.tail | exact h.tail.tail.tail | exact h.tail.tail.tail.tail | exact h.tail.tail.tail.tail.tail | exact h.tail.tail.tail.tail.tail.tail | exact h.tail.tail.tail.tail.tail.tail.tail | exact h.tail.tail.tail.tail.tail.tail.tail.tail | exact h.tail.tail.tail.tail.tail.tail.tail.tail.tail | exact h.tail.tail.tail.tail.tail.tail.tail.tail.tail.tail | exact h.tail.tail.tail.tail.tail.tail.tail.tail.tail.tail.tail | exact h.tail.tail.tail.tail.tail.tail.tail.tail.tail.tail.tail.tail | exact h.tail.tail.tail.tail.tail.tail.tail.tail.tail.tail.tail.tail.tail)⟩
theorem clipT_spec (w0 : Base) (η H : Heap) (v : Value) (n : Nat) (xs : List Value) (hF : Frag 69 21 v n xs H) :
    CallsT Tryd.prog 67 [v] (St w0 (H ++ η)) fun v A' => Frag 69 21 v n xs H ∧ A' = St w0 (H ++ η) := by
  obtain ⟨hl, hF⟩ := hF
  rcases hF with ⟨rfl, rfl, rfl⟩ | ⟨b, cap, rest, rfl, hc, hlen, rfl⟩
  · refine CallsT.body Tryd.func67 rfl rfl ?_
    simp only [Tryd.ntmps67, slotsOf, Nat.reduceAdd]
    refine TC_seq ?_
    refine TC_reg ?_
    refine TL_q rfl rfl (QT_assign rfl rfl rfl) ?_
    refine TL_nil ?_
    refine TX_then ?_
    refine TC_seq ?_
    refine TC_reg ?_
    refine TL_q rfl rfl (QT_move rfl rfl rfl) ?_
    refine TL_q rfl rfl (QT_move rfl rfl rfl) ?_
    refine TL_q rfl rfl (QT_len rfl rfl Tryd.underlying42 rfl) ?_
    refine TL_q rfl rfl (QT_move rfl rfl rfl) ?_
    refine TL_q rfl rfl (QT_len rfl rfl Tryd.underlying42 rfl) ?_
    refine TL_q rfl rfl (QT_slcHM (0) (0) rfl rfl rfl Tryd.underlying42 YtjdaglmkljbfkaaDoorF.sz_69 rfl rfl rfl rfl rfl (fun _ => ⟨by omega, by omega⟩)) ?_
    refine TL_q rfl rfl (QT_assign rfl rfl rfl) ?_
    refine TL_nil ?_
    refine TX_then ?_
    refine TC_ret ?_
    exact TX_ret (.inl rfl) (res1 rfl rfl) ⟨_, ⟨⟨hl, .inl ⟨rfl, rfl, rfl⟩⟩, rfl⟩, fun _ h => h⟩
  · refine CallsT.body Tryd.func67 rfl rfl ?_
    simp only [Tryd.ntmps67, slotsOf, Nat.reduceAdd]
    refine TC_seq ?_
    refine TC_reg ?_
    refine TL_q rfl rfl (QT_assign rfl rfl rfl) ?_
    refine TL_nil ?_
    refine TX_then ?_
    refine TC_seq ?_
    refine TC_reg ?_
    refine TL_q rfl rfl (QT_move rfl rfl rfl) ?_
    refine TL_q rfl rfl (QT_move rfl rfl rfl) ?_
    refine TL_q rfl rfl (QT_len rfl rfl Tryd.underlying42 rfl) ?_
    refine TL_q rfl rfl (QT_move rfl rfl rfl) ?_
    refine TL_q rfl rfl (QT_len rfl rfl Tryd.underlying42 rfl) ?_
    refine TL_q rfl rfl (QT_slcHM (n) (n) rfl rfl rfl Tryd.underlying42 YtjdaglmkljbfkaaDoorF.sz_69 rfl rfl rfl rfl rfl (fun _ => ⟨by omega, by omega⟩)) ?_
    refine TL_q rfl rfl (QT_assign rfl rfl rfl) ?_
    refine TL_nil ?_
    refine TX_then ?_
    refine TC_ret ?_
    exact TX_ret (.inl rfl) (res1 rfl rfl) ⟨_, ⟨⟨hl, .inr ⟨b, n, rest, rfl, ⟨Nat.le_refl _, by omega⟩, Nat.le_trans (Nat.mul_le_mul_right _ hc.1) hlen, rfl⟩⟩, rfl⟩, fun _ h => h⟩
theorem cloneR_spec (w0 : Base) (η : Heap) (sv : Value) (n : Nat) (xs : List Value) (hs : SlA (St w0 η) sv 7 n xs) (hi : Ints (rep n recK) xs) (hn : n * 20 ≤ 140737488355328) :
    CallsT Tryd.prog 31 [sv] (St w0 η) fun v A' => ∃ H, Frag 67 7 v n xs H ∧ A' = St w0 (H ++ η) := by
  have hs0 := hs
  obtain ⟨hl, ad, cap, rfl, hcap, hr⟩ := hs
  refine CallsT.body Tryd.func31 rfl rfl ?_
  simp only [Tryd.ntmps31, slotsOf, Nat.reduceAdd]
  refine TC_seq ?_
  refine TC_reg ?_
  refine TL_q rfl rfl (QT_assign rfl rfl rfl) ?_
  refine TL_nil ?_
  refine TX_then ?_
  refine TC_seq ?_
  refine TC_seq ?_
  refine TC_reg ?_
  refine TL_q rfl rfl (QT_move rfl rfl rfl) ?_
  refine TL_q rfl rfl (QT_eqNilS rfl rfl Tryd.underlying30 rfl rfl) ?_
  refine TL_nil ?_
  refine TX_then ?_
  first
    | refine TC_cond_dec rfl (fun h4 => ?_) (fun h4 => ?_)
    | refine TC_cond rfl (fun h4 => ?_) (fun h4 => ?_)
  ·
    refine TC_seq ?_
    refine TC_reg ?_
    refine TL_q rfl rfl (QT_assign rfl rfl rfl) ?_
    refine TL_nil ?_
    refine TX_then ?_
    refine TC_ret ?_
    refine TX_then_ret ?_
    have h0 : n = 0 ∧ xs = [] := by
      rcases hr with h | ⟨b, off, rfl, _⟩
      · subst h; exact ⟨rfl, List.eq_nil_of_length_eq_zero (by simpa using hl)⟩
      · simp at h4
    obtain ⟨rfl, rfl⟩ := h0
    exact TX_ret (.inl rfl) (res1 rfl rfl) ⟨_, ⟨[], Frag.nil _ _, rfl⟩, fun _ h => h⟩
  ·
    refine TC_skip ?_
    refine TX_then ?_
    refine TC_seq ?_
    refine TC_reg ?_
    refine TL_e rfl rfl rfl (rfl) (ET_buildN [] rfl Tryd.underlying30 YtjdaglmkljbfkaaDoorF.sz_67 YtjdaglmkljbfkaaDoorF.zero_67 rfl rfl rfl (fun v hv => absurd hv List.not_mem_nil)) ?_
    rintro _ _ ⟨b5, rfl, rfl⟩
    refine TL_q rfl rfl (QT_move rfl rfl rfl) ?_
    refine TL_e rfl rfl rfl (rfl) (ET_appendL (η := η) (L := []) (H := [(b5, 67, [] ++ [])]) rfl Tryd.underlying30 el_Rec rfl rfl ⟨rfl, .inr ⟨b5, 0, [], rfl, ⟨Nat.le_refl _, by omega⟩, Nat.le_refl _, rfl⟩⟩ (fun _ h => h) hs0.tail hi.oneCell (by omega) (by omega)) ?_
    rintro cv _ ⟨H', hF', rfl⟩
    refine TL_q rfl rfl (QT_assign rfl rfl rfl) ?_
    refine TL_nil ?_
    refine TX_then ?_
    refine TC_ret ?_
    rw [Nat.zero_add, List.nil_append] at hF'
    exact TX_ret (.inl rfl) (res1 rfl rfl) ⟨_, ⟨H', hF', rfl⟩, fun _ h => h⟩
end Go.Proofs.YtjdaglmkljbfkaaDoor
namespace Go.Proofs.YtjdaglmkljbfkaaDoor
open Go Go.Gx Go.RowKit
set_option maxRecDepth 100000

abbrev R := List Value
def B3 (a b c : R) : R := T3 (bareR a) (bareR b) (bareR c)
def stripF : Nat → List R → R → R → R → List R → List R × Int
  | 0, _, _, _, _, out => (out, 0)
  | _ + 1, [], _, _, _, out => (out, 0)
  | f + 1, x :: v, a, b, c, out =>
    if flagR x = 0 then (match v with
      | y :: z :: w => stripF f w x y z (out ++ [B3 x y z])
      | _ => ([], 5))
    else if flagR x = 1 then stripF f v b c x (out ++ [B3 b c x])
    else if flagR x = 2 then stripF f v a c x (out ++ [B3 a c x])
    else ([], 7)
theorem strip_short {f : Nat} {x : R} {v : List R} {a b c : R} {out : List R} (h0 : flagR x = 0) (hv : v.length < 2) : stripF (f + 1) (x :: v) a b c out = ([], 5) := by
  match v, hv with
  | [], _ => simp [stripF, h0]
  | [_], _ => simp [stripF, h0]
  | y :: z :: w, h => simp at h; omega
theorem strip_long {f : Nat} {x y z : R} {w : List R} {a b c : R} {out : List R} (h0 : flagR x = 0) : stripF (f + 1) (x :: y :: z :: w) a b c out = stripF f w x y z (out ++ [B3 x y z]) := by simp [stripF, h0]
theorem strip_one {f : Nat} {x : R} {v : List R} {a b c : R} {out : List R} (h0 : flagR x = 1) : stripF (f + 1) (x :: v) a b c out = stripF f v b c x (out ++ [B3 b c x]) := by simp [stripF, h0]
theorem strip_two {f : Nat} {x : R} {v : List R} {a b c : R} {out : List R} (h0 : flagR x = 2) : stripF (f + 1) (x :: v) a b c out = stripF f v a c x (out ++ [B3 a c x]) := by simp [stripF, h0]
theorem strip_bad {f : Nat} {x : R} {v : List R} {a b c : R} {out : List R} (h0 : flagR x ≠ 0) (h1 : flagR x ≠ 1) (h2 : flagR x ≠ 2) : stripF (f + 1) (x :: v) a b c out = ([], 7) := by simp [stripF, h0, h1, h2]
theorem set3 {a b c x : R} (ha : a.length = 7) (hb : b.length = 7) (hc : c.length = 7) (hx : x.length = 7) : setAt (setAt (T3 a b c) (0 + 1 * 7) c) (0 + 2 * 7) x = T3 a c x := by
  obtain ⟨f, rfl⟩ := tab' (.bool false) a ha
  obtain ⟨g, rfl⟩ := tab' (.bool false) b hb
  obtain ⟨h, rfl⟩ := tab' (.bool false) c hc
  obtain ⟨k, rfl⟩ := tab' (.bool false) x hx
  kernel_rfl
def zR : R := zs recK
theorem zR_ints : Ints recK zR := zs_ints _
/-- what is known at the head of a round -/
structure Stp (w0 : Base) (η : Heap) (n : Nat) (FIN : List R × Int) (rem : List R) (sv : Value) (a b c : R) (out : List R) (fv : Value) (H : Heap) (e : Int) (f : Nat) : Prop where
  sl : SlA (St w0 η) sv 7 rem.length rem.flatten
  all : All7 rem
  ia : Ints recK a
  ib : Ints recK b
  ic : Ints recK c
  io : ∀ t ∈ out, Ints triK t
  fr : Frag 69 21 fv out.length out.flatten H
  few : out.length + rem.length ≤ n
  fin : (e = 0 ∧ stripF f rem a b c out = FIN ∧ rem.length < f) ∨ (e ≠ 0 ∧ FIN = ([], e))
  e64 : e = 0 ∨ e = 5 ∨ e = 7
theorem flatten_snoc (out : List R) (t : R) : (out ++ [t]).flatten = out.flatten ++ t := by simp

set_option maxHeartbeats 1000000 in
theorem strip_spec (w0 : Base) (η : Heap) (sv : Value) (rs : List R) (hs : SlA (St w0 η) sv 7 rs.length rs.flatten) (ha : All7 rs) (hn : rs.length * 60 ≤ 140737488355328) :
    CallsT Tryd.prog 33 [sv] (St w0 η) fun v A' => ∃ pv H, v = .tuple #[pv, .int .i64 (stripF (rs.length + 1) rs zR zR zR []).2] ∧ Frag 69 21 pv (stripF (rs.length + 1) rs zR zR zR []).1.length (stripF (rs.length + 1) rs zR zR zR []).1.flatten H ∧ A' = St w0 (H ++ η) := by
  obtain ⟨FIN, hFIN⟩ : ∃ F, F = stripF (rs.length + 1) rs zR zR zR [] := ⟨_, rfl⟩
  rw [← hFIN]
  refine CallsT.body Tryd.func33 rfl rfl ?_
  simp only [Tryd.ntmps33, slotsOf, Nat.reduceAdd]
  refine TC_seq ?_
  refine TC_reg ?_
  refine TL_q rfl rfl (QT_assign rfl rfl rfl) ?_
  refine TL_q rfl rfl (QT_assign rfl rfl rfl) ?_
  refine TL_nil ?_
  refine TX_then ?_
  refine TC_seq ?_
  refine TC_reg ?_
  refine TL_e rfl rfl rfl (rfl) (ET_alloc rfl YtjdaglmkljbfkaaDoorF.zero_69) ?_
  rintro _ _ ⟨b4, rfl, rfl⟩
  refine TL_nil ?_
  refine TX_then ?_
  refine TC_seq ?_
  refine TC_block ?_
  refine TC_loop (γ := { t : List R × Value × R × R × R × List R × Value × Heap × Int × Nat // Stp w0 η rs.length FIN t.1 t.2.1 t.2.2.1 t.2.2.2.1 t.2.2.2.2.1 t.2.2.2.2.2.1 t.2.2.2.2.2.2.1 t.2.2.2.2.2.2.2.1 t.2.2.2.2.2.2.2.2.1 t.2.2.2.2.2.2.2.2.2 }) (fun t => [(0, true, t.1.2.1), (2, true, t.1.2.2.2.2.2.2.1), (3, true, .int .i64 t.1.2.2.2.2.2.2.2.2.1), (4, true, .pointer (some ⟨b4, 0, none⟩))]) (fun t => St w0 ((b4, 69, T3 t.1.2.2.1 t.1.2.2.2.1 t.1.2.2.2.2.1) :: (t.1.2.2.2.2.2.2.2.1 ++ η))) (fun t => t.1.1.length) ⟨(rs, sv, zR, zR, zR, [], .slice none 0 0, [], 0, rs.length + 1), hs, ha, zR_ints, zR_ints, zR_ints, fun t h => absurd h List.not_mem_nil, Frag.nil _ _, by show 0 + rs.length ≤ rs.length; omega, .inl ⟨rfl, hFIN.symm, Nat.lt_succ_self _⟩, .inl rfl⟩ ⟨rfl, rfl, rfl, rfl, trivial⟩ (fun _ h => h) ?_
  rintro ⟨⟨rem, sv, a, b, c, out, fv, H, e, f⟩, hS⟩
  dsimp only at hS ⊢
  obtain ⟨hsl, hall, hia, hib, hic, hio, hfr, hfew, hfin, he64⟩ := hS
  obtain ⟨_, ad, cap, sb, so, rfl, hcap, had, hrd⟩ := hsl.some
  refine TC_seq ?_
  refine TC_seq ?_
  refine TC_reg ?_
  refine TL_q rfl rfl (QT_move rfl rfl rfl) ?_
  refine TL_q rfl rfl (QT_len rfl rfl Tryd.underlying30 rfl) ?_
  refine TL_q rfl rfl (QT_gtr rfl rfl rfl rfl) ?_
  refine TL_q rfl rfl (QT_move rfl rfl rfl) ?_
  refine TL_q rfl rfl (QT_move rfl rfl rfl) ?_
  refine TL_q rfl rfl (QT_eql rfl rfl rfl rfl) ?_
  refine TL_q rfl rfl (QT_and rfl rfl rfl rfl) ?_
  refine TL_nil ?_
  refine TX_then ?_
  first
    | refine TC_cond_dec rfl (fun h12 => ?_) (fun h12 => ?_)
    | refine TC_cond rfl (fun h12 => ?_) (fun h12 => ?_)
  ·
    simp only [Bool.and_eq_true, decide_eq_true_eq] at h12
    obtain ⟨h12a, rfl⟩ := h12
    obtain ⟨x, v, rfl⟩ : ∃ x v, rem = x :: v := by
      cases rem with
      | nil => simp at h12a
      | cons x v => exact ⟨x, v, rfl⟩
    obtain ⟨_, hF, hfuel⟩ : (0 : Int) = 0 ∧ stripF f (x :: v) a b c out = FIN ∧ (x :: v).length < f := by
      rcases hfin with h | ⟨h, _⟩
      · exact h
      · exact absurd rfl h
    obtain ⟨f, rfl⟩ : ∃ g, f = g + 1 := ⟨f - 1, by omega⟩
    have hix : Ints recK x := hall x (List.mem_cons_self ..)
    have hxl : x.length = 7 := hix.length
    have hav : All7 v := fun r hr => hall r (List.mem_cons_of_mem _ hr)
    obtain ⟨hx0, hle0⟩ := flat_at (s := 7) (i := 0) hall.len (show (x :: v)[0]? = some x from rfl)
    have hzx : Sz Tryd.prog 67 x.length := by rw [hxl]; exact YtjdaglmkljbfkaaDoorF.sz_67
    obtain ⟨hfx, _⟩ := flagR_spec hix
    have hR : ∀ {η' : Heap}, (∀ p : Blk → Bool, η.countP p ≤ η'.countP p) → Rd (St w0 η') sb so (x :: v).flatten := fun h => hrd.mono fun _ hw => hw.cnt h
    have hback := hsl.back (k := 1) (by simp)
    rw [flat_drop (k := 1) hall.len, List.drop_one, List.tail_cons, List.length_cons, Nat.add_sub_cancel] at hback
    refine TC_skip ?_
    refine TX_then ?_
    refine TC_block ?_
    refine TC_scope ?_
    refine TC_seq ?_
    refine TC_reg ?_
    refine TL_q rfl rfl (QT_move rfl rfl rfl) ?_
    refine TL_q rfl rfl (QT_indexG 0 rfl rfl Tryd.underlying30 YtjdaglmkljbfkaaDoorF.sz_67 rfl rfl rfl (fun _ => by simp) (fun _ => had (by simp))) ?_
    refine TL_q rfl rfl (QT_loadRAj (0 * 7) rfl rfl Tryd.underlying67 rfl YtjdaglmkljbfkaaDoorF.sz_67 (hR fun p => by simp only [List.countP_append, List.countP_cons]; omega) rfl (fun _ => hle0) (fun _ => hx0)) ?_
    refine TL_e rfl rfl rfl (rfl) (ET_alloc rfl YtjdaglmkljbfkaaDoorF.zero_67) ?_
    rintro _ _ ⟨b5, rfl, rfl⟩
    refine TL_e0 rfl rfl (rfl) (ET_storeW (vs := x) 0 rfl rfl rfl hzx rfl (List.all_eq_true.2 hix.oneCell) (by rw [hxl]; rfl)) ?_
    rintro _ _ ⟨rfl, rfl⟩
    refine TL_nil ?_
    refine TX_then ?_
    refine TC_seq ?_
    refine TC_reg ?_
    refine TL_q rfl rfl (QT_move rfl rfl rfl) ?_
    refine TL_q rfl rfl (QT_slcL 1 rfl rfl rfl rfl Tryd.underlying30 YtjdaglmkljbfkaaDoorF.sz_67 rfl rfl rfl (fun _ => by simp)) ?_
    refine TL_q rfl rfl (QT_assign rfl rfl rfl) ?_
    refine TL_nil ?_
    refine TX_then ?_
    refine TC_seq ?_
    refine TC_label ?_
    refine TX_then ?_
    refine TC_cut (γ := { t : List R × Value × R × R × R × Int // ∃ rem' e', rem' = t.1 ∧ e' = t.2.2.2.2.2 ∧ SlA (St w0 η) t.2.1 7 t.1.length t.1.flatten ∧ All7 t.1 ∧ Ints recK t.2.2.1 ∧ Ints recK t.2.2.2.1 ∧ Ints recK t.2.2.2.2.1 ∧ t.1.length ≤ v.length ∧ ((e' = 0 ∧ stripF f rem' t.2.2.1 t.2.2.2.1 t.2.2.2.2.1 (out ++ [B3 t.2.2.1 t.2.2.2.1 t.2.2.2.2.1]) = FIN ∧ rem'.length < f) ∨ (e' ≠ 0 ∧ FIN = ([], e'))) ∧ (e' = 0 ∨ e' = 5 ∨ e' = 7) }) (fun t => [(0, true, t.1.2.1), (2, true, fv), (3, true, .int .i64 t.1.2.2.2.2.2), (4, true, .pointer (some ⟨b4, 0, none⟩))]) (fun t => St w0 ((b4, 69, T3 t.1.2.2.1 t.1.2.2.2.1 t.1.2.2.2.2.1) :: (H ++ η))) ?_ ?_
    ·
      refine TC_seq ?_
      have hsz5 : v.length = (x :: v).length - 1 := by simp
      obtain ⟨ad1, had1⟩ : ∃ ad1, ad1 = (if cap = 1 then ad else ad.map (·.add (1 * 7))) := ⟨_, rfl⟩
      rw [← had1] at hback
      refine TC_weaken (σ' := [(0, true, .slice ad1 v.length (cap - 1)), (2, true, fv), (3, true, .int .i64 0), (4, true, .pointer (some ⟨b4, 0, none⟩)), (5, true, .pointer (some ⟨b5, 0, none⟩))]) ⟨by rw [had1]; rfl, rfl, rfl, rfl, rfl, trivial⟩ (fun _ h => h) ?_
      obtain ⟨_, ad1', cap1, sb1, so1, heq1, hcap1, hadd1, hrd1⟩ := hback.some
      obtain ⟨rfl, _, rfl⟩ := Value.slice.inj heq1
      have hR1 : ∀ {η' : Heap}, (∀ p : Blk → Bool, η.countP p ≤ η'.countP p) → Rd (St w0 η') sb1 so1 v.flatten := fun h => hrd1.mono fun _ hw => hw.cnt h
      have hTl := T3_len hia.length hib.length hic.length
      obtain ⟨hT0, hT1, hT2⟩ := T3_at hia.length hib.length hic.length
      have hTi := T3_ints hia hib hic
      refine TC_reg ?_
      refine TL_q rfl rfl (QT_field rfl rfl YtjdaglmkljbfkaaDoorF.fld_67_0 rfl) ?_
      refine TL_q rfl rfl (QT_load 0 rfl rfl Tryd.underlying5 rfl rfl rfl (fun _ => hfx)) ?_
      refine TL_nil ?_
      refine TX_then ?_
      refine TC_block ?_
      refine TC_seq ?_
      refine TC_reg ?_
      refine TL_q rfl rfl (QT_eql rfl rfl rfl rfl) ?_
      refine TL_q rfl rfl (QT_assign rfl rfl rfl) ?_
      refine TL_nil ?_
      refine TX_then ?_
      first
        | refine TC_cond_dec rfl (fun h20 => ?_) (fun h20 => ?_)
        | refine TC_cond rfl (fun h20 => ?_) (fun h20 => ?_)
      ·
        refine TC_seq ?_
        refine TC_seq ?_
        refine TC_reg ?_
        refine TL_q rfl rfl (QT_move rfl rfl rfl) ?_
        refine TL_q rfl rfl (QT_len rfl rfl Tryd.underlying30 rfl) ?_
        refine TL_q rfl rfl (QT_lss rfl rfl rfl rfl) ?_
        refine TL_nil ?_
        refine TX_then ?_
        first
          | refine TC_cond_dec rfl (fun h24 => ?_) (fun h24 => ?_)
          | refine TC_cond rfl (fun h24 => ?_) (fun h24 => ?_)
        ·
          refine TC_seq ?_
          refine TC_reg ?_
          refine TL_q rfl rfl (QT_assign rfl rfl rfl) ?_
          refine TL_nil ?_
          refine TX_then ?_
          refine TC_exit ?_
          refine TX_then_exit ?_
          refine TX_block_here ?_
          exact TX_cut ⟨(v, .slice ad1 v.length (cap - 1), a, b, c, 5), v, 5, rfl, rfl, hback, hav, hia, hib, hic, Nat.le_refl _, .inr ⟨by decide, by rw [← hF, strip_short (by omega) (by omega)]⟩, .inr (.inl rfl)⟩ ⟨rfl, rfl, rfl, rfl, trivial⟩ (fun _ h => h.tail)
        ·
          refine TC_skip ?_
          refine TX_then ?_
          obtain ⟨y, z, w, rfl⟩ : ∃ y z w, v = y :: z :: w := by
            match v, h24 with
            | [], h => simp at h
            | [_], h => simp at h
            | y :: z :: w, _ => exact ⟨y, z, w, rfl⟩
          have hiy : Ints recK y := hav y (by simp)
          have hiz : Ints recK z := hav z (by simp)
          obtain ⟨hy0, hle1⟩ := flat_at (s := 7) (i := 0) hav.len (show (y :: z :: w)[0]? = some y from rfl)
          obtain ⟨hz0, hle2⟩ := flat_at (s := 7) (i := 1) hav.len (show (y :: z :: w)[1]? = some z from rfl)
          have hback2 := hback.back (k := 2) (by simp)
          rw [flat_drop (k := 2) hav.len] at hback2
          have hbl : (y :: z :: w).length - 2 = w.length := by simp
          have hbd : (y :: z :: w).drop 2 = w := rfl
          rw [hbl, hbd] at hback2
          have hxyz : Ints triK (T3 x y z) := T3_ints hix hiy hiz
          refine TC_draw [(0, 0), (1, 0), (2, 0), (3, 0), (4, 0), (5, 0), (6, 0), (7, 0), (8, 0), (9, 0), (10, 1), (11, 0)] YtjdaglmkljbfkaaDoorF.mixed (by kernel_rfl) (St.calm _ _) ?_
          refine TV_ql rfl rfl rfl (QT_loadW (cs := x) 0 rfl rfl Tryd.underlying67 rfl rfl rfl hzx) ?_
          refine TV_q rfl rfl rfl (fun _ => QT_move rfl rfl rfl) ?_
          refine TV_q rfl rfl rfl (fun _ => QT_indexG 0 rfl rfl Tryd.underlying30 YtjdaglmkljbfkaaDoorF.sz_67 rfl rfl rfl (fun _ => by simp) (fun _ => hadd1 (by simp))) ?_
          refine TV_ql rfl rfl rfl (QT_loadRAj (0 * 7) rfl rfl Tryd.underlying67 rfl YtjdaglmkljbfkaaDoorF.sz_67 (hR1 (η' := (b5, 67, x) :: (b4, 69, T3 a b c) :: (H ++ η)) fun p => by simp only [List.countP_append, List.countP_cons]; omega) rfl (fun _ => hle1) (fun _ => hy0)) ?_
          refine TV_q rfl rfl rfl (fun _ => QT_move rfl rfl rfl) ?_
          refine TV_q rfl rfl rfl (fun _ => QT_indexG 1 rfl rfl Tryd.underlying30 YtjdaglmkljbfkaaDoorF.sz_67 rfl rfl rfl (fun _ => by simp) (fun _ => hadd1 (by simp))) ?_
          refine TV_ql rfl rfl rfl (QT_loadRAj (1 * 7) rfl rfl Tryd.underlying67 rfl YtjdaglmkljbfkaaDoorF.sz_67 (hR1 (η' := (b5, 67, x) :: (b4, 69, T3 a b c) :: (H ++ η)) fun p => by simp only [List.countP_append, List.countP_cons]; omega) rfl (fun _ => hle2) (fun _ => hz0)) ?_
          refine TV_q rfl rfl rfl (fun _ => QT_buildArr (out := T3 x y z) rfl rfl YtjdaglmkljbfkaaDoorF.zero_69 Tryd.underlying69 YtjdaglmkljbfkaaDoorF.sz_67 rfl rfl (seg3 hxl hiy.length hiz.length rfl)) ?_
          refine TV_q rfl rfl rfl (fun _ => QT_move rfl rfl rfl) ?_
          refine TV_q rfl rfl rfl (fun _ => QT_slcL 2 rfl rfl rfl rfl Tryd.underlying30 YtjdaglmkljbfkaaDoorF.sz_67 rfl rfl rfl (fun _ => by simp)) ?_
          refine TV_e0 rfl rfl rfl (rfl) (ET_storeW (vs := T3 x y z) 1 rfl rfl rfl (by rw [hxyz.length]; exact YtjdaglmkljbfkaaDoorF.sz_69) rfl (List.all_eq_true.2 hxyz.oneCell) (by rw [hxyz.length, hTl]; rfl)) ?_
          rintro _ _ ⟨rfl, rfl⟩
          refine ⟨_, .drop (by kernel_rfl) (.drop (by kernel_rfl) (.drop (by kernel_rfl) (.nil))), ?_⟩
          refine TV_q rfl rfl rfl (fun _ => QT_assign rfl rfl rfl) ?_
          refine TV_end ?_
          refine TX_block_normal ?_
          exact TX_cut ⟨(w, .slice (if cap - 1 = 2 then ad1 else ad1.map (·.add (2 * 7))) w.length (cap - 1 - 2), x, y, z, 0), w, 0, rfl, rfl, hback2, fun r hr => hav r (by simp [hr]), hix, hiy, hiz, by have e : (y :: z :: w).length = w.length + 2 := rfl; rw [e]; exact Nat.le_add_right _ _, .inl ⟨rfl, by rw [← hF, strip_long (by omega)], by have e : (x :: y :: z :: w).length = w.length + 3 := rfl; rw [e] at hfuel; omega⟩, .inl rfl⟩ ⟨rfl, rfl, rfl, rfl, trivial⟩ (fun _ h => h.tail)
      ·
        refine TC_seq ?_
        refine TC_reg ?_
        refine TL_q rfl rfl (QT_eql rfl rfl rfl rfl) ?_
        refine TL_q rfl rfl (QT_assign rfl rfl rfl) ?_
        refine TL_nil ?_
        refine TX_then ?_
        first
          | refine TC_cond_dec rfl (fun h35 => ?_) (fun h35 => ?_)
          | refine TC_cond rfl (fun h35 => ?_) (fun h35 => ?_)
        ·
          refine TC_reg ?_
          refine TL_q rfl rfl (QT_indexArr (1) rfl rfl Tryd.underlying69 YtjdaglmkljbfkaaDoorF.sz_67 rfl rfl (rfl) (fun _ => by decide)) ?_
          refine TL_q rfl rfl (QT_loadRAj (out := b) (1 * 7) rfl rfl Tryd.underlying67 rfl YtjdaglmkljbfkaaDoorF.sz_67 (Rd.own 1 rfl) rfl (fun _ => by rw [hTl]; decide) (fun _ => hT1)) ?_
          refine TL_q rfl rfl (QT_indexArr (2) rfl rfl Tryd.underlying69 YtjdaglmkljbfkaaDoorF.sz_67 rfl rfl (rfl) (fun _ => by decide)) ?_
          refine TL_q rfl rfl (QT_loadRAj (out := c) (2 * 7) rfl rfl Tryd.underlying67 rfl YtjdaglmkljbfkaaDoorF.sz_67 (Rd.own 1 rfl) rfl (fun _ => by rw [hTl]; decide) (fun _ => hT2)) ?_
          refine TL_q rfl rfl (QT_loadW (cs := x) 0 rfl rfl Tryd.underlying67 rfl rfl rfl hzx) ?_
          refine TL_q rfl rfl (QT_buildArr (out := T3 b c x) rfl rfl YtjdaglmkljbfkaaDoorF.zero_69 Tryd.underlying69 YtjdaglmkljbfkaaDoorF.sz_67 rfl rfl (seg3 hib.length hic.length hxl rfl)) ?_
          refine TL_e0 rfl rfl (rfl) (ET_storeW (vs := T3 b c x) 1 rfl rfl rfl (by rw [T3_len hib.length hic.length hxl]; exact YtjdaglmkljbfkaaDoorF.sz_69) rfl (List.all_eq_true.2 (T3_ints hib hic hix).oneCell) (by rw [T3_len hib.length hic.length hxl, hTl]; rfl)) ?_
          rintro _ _ ⟨rfl, rfl⟩
          refine TL_nil ?_
          refine TX_block_normal ?_
          exact TX_cut ⟨(v, .slice ad1 v.length (cap - 1), b, c, x, 0), v, 0, rfl, rfl, hback, hav, hib, hic, hix, Nat.le_refl _, .inl ⟨rfl, by rw [← hF, strip_one (by omega)], by simp at hfuel; omega⟩, .inl rfl⟩ ⟨rfl, rfl, rfl, rfl, trivial⟩ (fun _ h => h.tail)
        ·
          refine TC_seq ?_
          refine TC_reg ?_
          refine TL_q rfl rfl (QT_eql rfl rfl rfl rfl) ?_
          refine TL_q rfl rfl (QT_assign rfl rfl rfl) ?_
          refine TL_nil ?_
          refine TX_then ?_
          first
            | refine TC_cond_dec rfl (fun h43 => ?_) (fun h43 => ?_)
            | refine TC_cond rfl (fun h43 => ?_) (fun h43 => ?_)
          ·
            refine TC_draw [(0, 0), (1, 0), (2, 0), (3, 0), (4, 1), (5, 0), (6, 1)] YtjdaglmkljbfkaaDoorF.mixed (by kernel_rfl) (St.calm _ _) ?_
            refine TV_q rfl rfl rfl (fun _ => QT_indexArr (2) rfl rfl Tryd.underlying69 YtjdaglmkljbfkaaDoorF.sz_67 rfl rfl (rfl) (fun _ => by decide)) ?_
            refine TV_ql rfl rfl rfl (QT_loadRAj (out := c) (2 * 7) rfl rfl Tryd.underlying67 rfl YtjdaglmkljbfkaaDoorF.sz_67 (Rd.own 1 rfl) rfl (fun _ => by rw [hTl]; decide) (fun _ => hT2)) ?_
            refine TV_ql rfl rfl rfl (QT_loadW (cs := x) 0 rfl rfl Tryd.underlying67 rfl rfl rfl hzx) ?_
            refine TV_q rfl rfl rfl (fun _ => QT_indexArr (1) rfl rfl Tryd.underlying69 YtjdaglmkljbfkaaDoorF.sz_67 rfl rfl (rfl) (fun _ => by decide)) ?_
            refine TV_e0 rfl rfl rfl (rfl) (ET_store (vs := c) 1 rfl rfl rfl rfl (by rw [hic.length]; exact YtjdaglmkljbfkaaDoorF.sz_67) rfl (List.all_eq_true.2 hic.oneCell) (Nat.ble_eq_true_of_le (by rw [hic.length, hTl]; decide))) ?_
            rintro _ _ ⟨rfl, rfl⟩
            refine ⟨_, .keep (by kernel_rfl) rfl (by first | exact QT_loadW (cs := x) 0 rfl rfl Tryd.underlying67 rfl rfl rfl hzx) (.drop (by kernel_rfl) (.nil)), ?_⟩
            refine TV_q rfl rfl rfl (fun _ => QT_indexArr (2) rfl rfl Tryd.underlying69 YtjdaglmkljbfkaaDoorF.sz_67 rfl rfl (rfl) (fun _ => by decide)) ?_
            refine TV_e0 rfl rfl rfl (rfl) (ET_store (vs := x) 1 rfl rfl rfl rfl hzx rfl (List.all_eq_true.2 hix.oneCell) (Nat.ble_eq_true_of_le (by rw [hxl, setAt_length, hTl]; decide))) ?_
            rintro _ _ ⟨rfl, rfl⟩
            refine ⟨_, .drop (by kernel_rfl) (.nil), ?_⟩
            refine TV_end ?_
            refine TX_block_normal ?_
            exact TX_cut ⟨(v, .slice ad1 v.length (cap - 1), a, c, x, 0), v, 0, rfl, rfl, hback, hav, hia, hic, hix, Nat.le_refl _, .inl ⟨rfl, by rw [← hF, strip_two (by omega)], by simp at hfuel; omega⟩, .inl rfl⟩ ⟨rfl, rfl, rfl, rfl, trivial⟩ (fun w h => by
              rw [← set3 hia.length hib.length hic.length hxl]
              exact h.tail)
          ·
            refine TC_reg ?_
            refine TL_q rfl rfl (QT_assign rfl rfl rfl) ?_
            refine TL_nil ?_
            refine TX_block_normal ?_
            exact TX_cut ⟨(v, .slice ad1 v.length (cap - 1), a, b, c, 7), v, 7, rfl, rfl, hback, hav, hia, hib, hic, Nat.le_refl _, .inr ⟨by decide, by rw [← hF, strip_bad (by omega) (by omega) (by omega)]⟩, .inr (.inr rfl)⟩ ⟨rfl, rfl, rfl, rfl, trivial⟩ (fun _ h => h.tail)
    try clear hTl hT0 hT1 hT2 hTi hia hib hic hfin a b c
    rintro ⟨⟨rem', sv', a, b, c, e⟩, rem2, e2, h1, h2, hsl', hall', hia, hib, hic, hrl, hfin', he'⟩
    dsimp only at h1 h2 hsl' hall' hia hib hic hrl hfin' he' ⊢
    subst h1 h2
    have hBi : Ints triK (B3 a b c) := T3_ints (bareR_ints hia) (bareR_ints hib) (bareR_ints hic)
    have hTz : Sz Tryd.prog 69 (T3 a b c).length := by rw [T3_len hia.length hib.length hic.length]; exact YtjdaglmkljbfkaaDoorF.sz_69
    refine TC_reg ?_
    refine TL_q rfl rfl (QT_move rfl rfl rfl) ?_
    refine TL_q rfl rfl (QT_loadW (cs := T3 a b c) 0 rfl rfl Tryd.underlying69 rfl rfl rfl hTz) ?_
    refine TL_cq rfl rfl rfl rfl YtjdaglmkljbfkaaDoorF.cal_66 rfl (fun _ => bare_spec w0 _ a b c hia hib hic) ?_
    refine TL_e rfl rfl rfl (rfl) (ET_buildN [_] rfl Tryd.underlying42 YtjdaglmkljbfkaaDoorF.sz_69 YtjdaglmkljbfkaaDoorF.zero_69 rfl rfl rfl (fun v hv => by cases List.mem_singleton.1 hv; exact hBi.length)) ?_
    rintro _ _ ⟨b53, rfl, rfl⟩
    refine TL_e rfl rfl rfl (rfl) (ET_appendL (L := [_, _]) rfl Tryd.underlying42 el_Tri rfl rfl hfr (fun _ h => h) (SlA.own (n := 1) (xs := B3 a b c) 0 rfl (by rw [List.drop_zero, List.take_of_length_le (by simp [Value.cells]; exact Nat.le_of_eq hBi.length)]; simp [Value.cells, B3]) (by simp [Value.cells]; exact Nat.le_of_eq hBi.length.symm) (by omega)) hBi.oneCell (by simp at hfew; omega) (by simp at hfew; omega)) ?_
    rintro fv2 _ ⟨H', hF', rfl⟩
    refine TL_q rfl rfl (QT_assign rfl rfl rfl) ?_
    refine TL_nil ?_
    refine TX_scope_normal ?_
    refine TX_block_normal ?_
    exact TX_round ⟨(rem2, sv', a, b, c, out ++ [B3 a b c], fv2, H', e2, f), hsl', hall', hia, hib, hic, fun t ht => by
      rcases List.mem_append.1 ht with ht | ht
      · exact hio t ht
      · cases List.mem_singleton.1 ht
        exact hBi, by rw [List.length_append, flatten_snoc]; exact hF', by simp at hfew ⊢; omega, hfin', he'⟩ (by show rem2.length < (x :: v).length; simp; omega) ⟨rfl, rfl, rfl, rfl, trivial⟩ (fun _ h => h.tail)
  ·
    refine TC_exit ?_
    refine TX_then_exit ?_
    refine TX_then_exit ?_
    refine TX_block_here ?_
    refine TX_then ?_
    refine TC_seq ?_
    refine TC_seq ?_
    refine TC_reg ?_
    refine TL_q rfl rfl (QT_move rfl rfl rfl) ?_
    refine TL_q rfl rfl (QT_neq rfl rfl rfl rfl) ?_
    refine TL_nil ?_
    refine TX_then ?_
    first
      | refine TC_cond_dec rfl (fun h56 => ?_) (fun h56 => ?_)
      | refine TC_cond rfl (fun h56 => ?_) (fun h56 => ?_)
    ·
      refine TC_seq ?_
      refine TC_reg ?_
      refine TL_q rfl rfl (QT_move rfl rfl rfl) ?_
      refine TL_q rfl rfl (QT_assign rfl rfl rfl) ?_
      refine TL_q rfl rfl (QT_assign rfl rfl rfl) ?_
      refine TL_nil ?_
      refine TX_then ?_
      refine TC_ret ?_
      refine TX_then_ret ?_
      have hFe : FIN = ([], e) := by
        rcases hfin with ⟨h, _⟩ | ⟨_, h⟩
        · exact absurd h h56
        · exact h
      rw [hFe]
      exact TX_ret (.inl rfl) (res2 rfl rfl rfl) ⟨_, ⟨_, [], rfl, Frag.nil _ _, rfl⟩, fun _ h => h.tail.app_right⟩
    ·
      refine TC_skip ?_
      refine TX_then ?_
      refine TC_seq ?_
      obtain rfl : e = 0 := Classical.byContradiction h56
      have hr0 : rem = [] := by
        cases rem with
        | nil => rfl
        | cons x v => simp at h12
      subst hr0
      have hFe : FIN = (out, 0) := by
        rcases hfin with ⟨_, h, hf⟩ | ⟨h, _⟩
        · obtain ⟨g, rfl⟩ : ∃ g, f = g + 1 := ⟨f - 1, by simp at hf; omega⟩
          rw [← h, stripF]
        · exact absurd rfl h
      rw [hFe]
      refine TC_A (St w0 (H ++ η)) (fun _ h => h.tail) ?_
      refine TC_reg ?_
      refine TL_q rfl rfl (QT_move rfl rfl rfl) ?_
      refine TL_e rfl rfl rfl (rfl) (ET_call rfl YtjdaglmkljbfkaaDoorF.cal_67 rfl (clipT_spec w0 η H fv out.length out.flatten hfr)) ?_
      rintro cv _ ⟨hF2, rfl⟩
      refine TL_q rfl rfl (QT_assign rfl rfl rfl) ?_
      refine TL_q rfl rfl (QT_assign rfl rfl rfl) ?_
      refine TL_nil ?_
      refine TX_then ?_
      refine TC_ret ?_
      exact TX_ret (.inl rfl) (res2 rfl rfl rfl) ⟨_, ⟨cv, H, rfl, hF2, rfl⟩, fun _ h => h⟩
end Go.Proofs.YtjdaglmkljbfkaaDoor

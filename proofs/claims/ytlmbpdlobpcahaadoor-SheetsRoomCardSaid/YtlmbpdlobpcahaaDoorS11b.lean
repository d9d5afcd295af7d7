/- HANDS: a reader of bytes, a layer of bits; a number of another kind through a hand. -/
import Derived.Test.YtlmbpdlobpcahaaDoorS11a
import Derived.Test.YtlmbpdlobpcahaaDoorQ
import Derived.Test.YtlmbpdlobpcahaaDoorL08a
namespace Go.Proofs.YtlmbpdlobpcahaaDoor
open Go Go.Gx Go.RowKit
set_option maxRecDepth 100000
/-- What is known of a hand: what it makes of a number of so many bits, and of its state. -/
structure HandOk (w0 : World) {S : Type} (t : TypeId) (r : Value) (f : FuncId) (go : S → Nat → Nat → Nat × S) (sz : S → Nat) (Rep : S → Heap → Prop) (Ok : Heap → Prop) : Prop where
  cal : CalleeOk Tryd.prog f
  met : ∀ w, (method (Tryd.prog.types.size + Made.depth) t r "gouache/sheets.goes").run Tryd.prog w = .ok (f, r) w
  nil : ∀ w, (nilAhead (Tryd.prog.types.size + Made.depth) t r "gouache/sheets.goes").run Tryd.prog w = .ok (some false) w
  lt : ∀ s v w, v < 4294967296 → (go s v w).1 < 4294967296
  grow : ∀ s v w, sz (go s v w).2 ≤ sz s + w
  more : ∀ η b, Ok η → Ok (b :: η)
  goes : ∀ (η K : Heap) (s : S) (pb : Nat) (tt : TypeId) (cells : List Value) (off v w : Nat), Ok η → Rep s K → sz s ≤ 100000 → cells[off]? = some (.int .u32 (v : Int)) → v < 4294967296 → w ≤ 32 →
    CallsT Tryd.prog f [r, .pointer (some ⟨pb, off, none⟩), .int .i64 (w : Int)] (St w0 ((pb, tt, cells) :: (K ++ η))) fun z A' => z = .tuple #[] ∧ ∃ K', Rep (go s v w).2 K' ∧ A' = St w0 ((pb, tt, setAt cells off [.int .u32 ((go s v w).1 : Int)]) :: (K' ++ η))
/-- with others' memory between -/
theorem HandOk.deep {w0 : World} {S : Type} {t : TypeId} {r : Value} {f : FuncId} {go : S → Nat → Nat → Nat × S} {sz : S → Nat} {Rep : S → Heap → Prop} {Ok : Heap → Prop} (h : HandOk w0 t r f go sz Rep Ok) (X η K : Heap) (s : S) (pb : Nat) (tt : TypeId) (cells : List Value) (off v w : Nat) (hO : Ok η) (hK : Rep s K) (hs : sz s ≤ 100000) (hc : cells[off]? = some (.int .u32 (v : Int))) (hv : v < 4294967296) (hw : w ≤ 32) :
    CallsT Tryd.prog f [r, .pointer (some ⟨pb, off, none⟩), .int .i64 (w : Int)] (St w0 ((pb, tt, cells) :: (X ++ (K ++ η)))) fun z A' => z = .tuple #[] ∧ ∃ K', Rep (go s v w).2 K' ∧ A' = St w0 ((pb, tt, setAt cells off [.int .u32 ((go s v w).1 : Int)]) :: (X ++ (K' ++ η))) := by
  have hO' : Ok (X ++ η) := by
    induction X with
    | nil => exact hO
    | cons b X ih => exact h.more _ b ih
  have := h.goes (X ++ η) K s pb tt cells off v w hO' hK hs hc hv hw
  refine fun w hA => (this.mono (R' := fun z A' => z = .tuple #[] ∧ ∃ K', Rep (go s v _).2 K' ∧ A' = St w0 ((pb, tt, setAt cells off [.int .u32 ((go s v _).1 : Int)]) :: (X ++ (K' ++ η)))) ?_) w (hA.cnt fun p => by simp only [List.countP_append, List.countP_cons]; omega)
  rintro z A' ⟨hz, K', hK', rfl⟩
  exact ⟨_, ⟨hz, K', hK', rfl⟩, fun w h => h.cnt fun p => by simp only [List.countP_append, List.countP_cons]; omega⟩
def RepR (rb : Nat) (bv : Value) (s : Nat × Int) (K : Heap) : Prop := K = [(rb, 82, [bv, .int .i64 (s.1 : Int), .int .i64 s.2])]
def RepL (lb rb : Nat) (s : List Bool × Int) (K : Heap) : Prop := ∃ K0, RowAt rb s.1 K0 ∧ K = (lb, 151, [.pointer (some ⟨rb, 0, none⟩), .int .i64 s.2]) :: K0
theorem getV_lt (bs : List Nat) (p n : Int) : getV bs p n < 4294967296 := by
  unfold getV
  split
  · rename_i h
    unfold getE at h
    have hn : ¬ (p < 0 ∨ n < 0 ∨ 32 < n) := fun hx => by rw [if_pos hx] at h; exact absurd h (by decide)
    refine Nat.lt_of_lt_of_le (num_lt _) (Nat.le_trans (Nat.pow_le_pow_right (by decide) (show _ ≤ 32 by rw [List.length_take]; omega)) (by decide))
  · decide
theorem set_same {l : List Value} {i : Nat} {v : Value} (h : l[i]? = some v) : l.set i v = l := by
  apply List.ext_getElem?
  intro k
  rw [List.getElem?_set]
  by_cases e : i = k
  · subst e; rw [if_pos rfl, if_pos (List.getElem?_eq_some_iff.1 h).1]; exact h.symm
  · rw [if_neg e]
theorem cells_lt {cells : List Value} {off : Nat} {v : Value} (h : cells[off]? = some v) : Nat.ble (off + 1) cells.length = true := Nat.ble_eq_true_of_le (List.getElem?_eq_some_iff.1 h).1
theorem met_R : ∃ i m, Tryd.prog.info? 80 = some i ∧ i.methods.find? (·.name == "gouache/sheets.goes") = some m ∧ m.path = #[] ∧ m.func = some (114, true) := method_of (by kernel_rfl)
theorem met_L : ∃ i m, Tryd.prog.info? 147 = some i ∧ i.methods.find? (·.name == "gouache/sheets.goes") = some m ∧ m.path = #[] ∧ m.func = some (117, true) := method_of (by kernel_rfl)
theorem reader_goes (w0 : World) (η : Heap) (rb : Nat) (bv : Value) (bs : List Nat) (hb : ∀ c ∈ bs, c < 256) (hl : bs.length ≤ 140737488355328) (s : Nat × Int) (pb : Nat) (tt : TypeId) (cells : List Value) (off v w : Nat)
    (hO : SlA (St w0 η) bv 1 bs.length (byV bs)) (hs : s.1 ≤ 100000) (hc : cells[off]? = some (.int .u32 (v : Int))) (hw : w ≤ 32) :
    CallsT Tryd.prog 114 [.pointer (some ⟨rb, 0, none⟩), .pointer (some ⟨pb, off, none⟩), .int .i64 (w : Int)] (St w0 ((pb, tt, cells) :: (rb, 82, [bv, .int .i64 (s.1 : Int), .int .i64 s.2]) :: η)) fun z A' => z = .tuple #[] ∧ A' = St w0 ((pb, tt, setAt cells off [.int .u32 ((goR bs s v w).1 : Int)]) :: (rb, 82, [bv, .int .i64 ((goR bs s v w).2.1 : Int), .int .i64 (goR bs s v w).2.2]) :: η) := by
  have hlt := cells_lt hc
  have hset : setAt cells off [.int .u32 (v : Int)] = cells := by
    simp only [setAt]
    rw [set_same hc]
  obtain ⟨a, e⟩ := s
  have hs' : a ≤ 100000 := hs
  have hsla := hO.mono (fun w (h : St w0 ((pb, tt, cells) :: (rb, 82, [bv, .int .i64 (a : Int), .int .i64 e]) :: η) w) => h.tail.tail)
  refine CallsT.body Tryd.func114 rfl rfl ?_
  simp only [Tryd.ntmps114, slotsOf, Nat.reduceAdd]
  refine TC_seq ?_
  refine TC_seq ?_
  refine TC_reg ?_
  refine TL_q rfl rfl (QT_move rfl rfl rfl) ?_
  refine TL_q rfl rfl (QT_nilCheck rfl rfl rfl) ?_
  refine TL_q rfl rfl (QT_field rfl rfl YtlmbpdlobpcahaaDoorF.fld_82_2 rfl) ?_
  first
    | refine TL_q rfl rfl (QT_load 0 rfl rfl Tryd.underlying32 rfl rfl rfl (fun _ => rfl)) ?_
    | refine TL_q rfl rfl (QT_load 1 rfl rfl Tryd.underlying32 rfl rfl rfl (fun _ => rfl)) ?_
    | refine TL_q rfl rfl (QT_load 2 rfl rfl Tryd.underlying32 rfl rfl rfl (fun _ => rfl)) ?_
  refine TL_q rfl rfl (QT_eql rfl rfl rfl rfl) ?_
  refine TL_nil ?_
  refine TX_then ?_
  first
    | refine TC_cond_dec rfl (fun h10 => ?_) (fun h10 => ?_)
    | refine TC_cond rfl (fun h10 => ?_) (fun h10 => ?_)
  ·
    have eg : goR bs (a, e) v w = (getV bs a w, (a + w, getE bs.length a w)) := by unfold goR; rw [if_pos h10]
    rw [eg]
    refine TC_draw [(0, 0), (1, 0), (2, 0), (3, 0), (4, 0), (5, 0), (6, 0), (7, 0), (8, 0), (9, 0), (10, 0), (11, 1), (12, 0), (13, 0), (14, 0), (15, 0), (16, 1), (17, 0), (18, 0), (19, 1)] YtlmbpdlobpcahaaDoorF.mixed (by kernel_rfl) (St.calm _ _) ?_
    refine TV_q rfl rfl rfl (fun _ => QT_move rfl rfl rfl) ?_
    refine TV_q rfl rfl rfl (fun _ => QT_move rfl rfl rfl) ?_
    refine TV_q rfl rfl rfl (fun _ => QT_move rfl rfl rfl) ?_
    refine TV_q rfl rfl rfl (fun _ => QT_nilCheck rfl rfl rfl) ?_
    refine TV_q rfl rfl rfl (fun _ => QT_field rfl rfl YtlmbpdlobpcahaaDoorF.fld_82_0 rfl) ?_
    first
      | refine TV_ql rfl rfl rfl (QT_load 0 rfl rfl Tryd.underlying28 rfl rfl rfl (fun _ => rfl)) ?_
      | refine TV_ql rfl rfl rfl (QT_load 1 rfl rfl Tryd.underlying28 rfl rfl rfl (fun _ => rfl)) ?_
      | refine TV_ql rfl rfl rfl (QT_load 2 rfl rfl Tryd.underlying28 rfl rfl rfl (fun _ => rfl)) ?_
    refine TV_q rfl rfl rfl (fun _ => QT_move rfl rfl rfl) ?_
    refine TV_q rfl rfl rfl (fun _ => QT_nilCheck rfl rfl rfl) ?_
    refine TV_q rfl rfl rfl (fun _ => QT_field rfl rfl YtlmbpdlobpcahaaDoorF.fld_82_1 rfl) ?_
    first
      | refine TV_ql rfl rfl rfl (QT_load 0 rfl rfl Tryd.underlying3 rfl rfl rfl (fun _ => rfl)) ?_
      | refine TV_ql rfl rfl rfl (QT_load 1 rfl rfl Tryd.underlying3 rfl rfl rfl (fun _ => rfl)) ?_
      | refine TV_ql rfl rfl rfl (QT_load 2 rfl rfl Tryd.underlying3 rfl rfl rfl (fun _ => rfl)) ?_
    refine TV_q rfl rfl rfl (fun _ => QT_move rfl rfl rfl) ?_
    refine TV_cq rfl rfl rfl rfl rfl YtlmbpdlobpcahaaDoorF.cal_115 rfl (fun _ => get_spec w0 _ bv bs a w hsla hb ⟨by omega, by omega⟩ ⟨by omega, by omega⟩ hl) (.drop (by kernel_rfl) (.drop (by kernel_rfl) (.nil))) ?_
    refine TV_q rfl rfl rfl (fun _ => QT_move rfl rfl rfl) ?_
    refine TV_q rfl rfl rfl (fun _ => QT_extract rfl rfl rfl rfl) ?_
    refine TV_q rfl rfl rfl (fun _ => QT_extract rfl rfl rfl rfl) ?_
    refine TV_q rfl rfl rfl (fun _ => QT_nilCheck rfl rfl rfl) ?_
    refine TV_e0 rfl rfl rfl (rfl) (ET_store (vs := [.int .u32 (getV bs a w : Int)]) 0 rfl rfl rfl rfl YtlmbpdlobpcahaaDoorF.sz_62 rfl rfl hlt) ?_
    rintro _ _ ⟨rfl, rfl⟩
    refine ⟨_, .nil, ?_⟩
    refine TV_q rfl rfl rfl (fun _ => QT_nilCheck rfl rfl rfl) ?_
    refine TV_q rfl rfl rfl (fun _ => QT_field rfl rfl YtlmbpdlobpcahaaDoorF.fld_82_2 rfl) ?_
    first
      | refine TV_e0 rfl rfl rfl (rfl) (ET_store 0 rfl rfl rfl rfl YtlmbpdlobpcahaaDoorF.sz_32 rfl rfl rfl) ?_
      | refine TV_e0 rfl rfl rfl (rfl) (ET_store 1 rfl rfl rfl rfl YtlmbpdlobpcahaaDoorF.sz_32 rfl rfl rfl) ?_
      | refine TV_e0 rfl rfl rfl (rfl) (ET_store 2 rfl rfl rfl rfl YtlmbpdlobpcahaaDoorF.sz_32 rfl rfl rfl) ?_
    rintro _ _ ⟨rfl, rfl⟩
    refine ⟨_, .nil, ?_⟩
    refine TV_end ?_
    refine TX_then ?_
    refine TC_reg ?_
    refine TL_q rfl rfl (QT_move rfl rfl rfl) ?_
    refine TL_q rfl rfl (QT_nilCheck rfl rfl rfl) ?_
    refine TL_q rfl rfl (QT_field rfl rfl YtlmbpdlobpcahaaDoorF.fld_82_1 rfl) ?_
    first
      | refine TL_q rfl rfl (QT_load 0 rfl rfl Tryd.underlying3 rfl rfl rfl (fun _ => rfl)) ?_
      | refine TL_q rfl rfl (QT_load 1 rfl rfl Tryd.underlying3 rfl rfl rfl (fun _ => rfl)) ?_
      | refine TL_q rfl rfl (QT_load 2 rfl rfl Tryd.underlying3 rfl rfl rfl (fun _ => rfl)) ?_
    refine TL_q rfl rfl (QT_move rfl rfl rfl) ?_
    refine TL_q rfl rfl (QT_add rfl rfl rfl rfl (fun _ => ⟨by omega, by omega⟩)) ?_
    refine TL_q rfl rfl (QT_nilCheck rfl rfl rfl) ?_
    refine TL_q rfl rfl (QT_field rfl rfl YtlmbpdlobpcahaaDoorF.fld_82_1 rfl) ?_
    first
      | refine TL_e0 rfl rfl (rfl) (ET_store 0 rfl rfl rfl rfl YtlmbpdlobpcahaaDoorF.sz_3 rfl rfl rfl) ?_
      | refine TL_e0 rfl rfl (rfl) (ET_store 1 rfl rfl rfl rfl YtlmbpdlobpcahaaDoorF.sz_3 rfl rfl rfl) ?_
      | refine TL_e0 rfl rfl (rfl) (ET_store 2 rfl rfl rfl rfl YtlmbpdlobpcahaaDoorF.sz_3 rfl rfl rfl) ?_
    rintro _ _ ⟨rfl, rfl⟩
    refine TL_nil ?_
    exact TX_ret (.inr rfl) (res0 rfl) ⟨_, ⟨rfl, rfl⟩, fun _ h => h⟩
  ·
    have eg : goR bs (a, e) v w = (v, (a + w, e)) := by unfold goR; rw [if_neg h10]
    rw [eg]
    simp only [hset]
    refine TC_skip ?_
    refine TX_then ?_
    refine TC_reg ?_
    refine TL_q rfl rfl (QT_move rfl rfl rfl) ?_
    refine TL_q rfl rfl (QT_nilCheck rfl rfl rfl) ?_
    refine TL_q rfl rfl (QT_field rfl rfl YtlmbpdlobpcahaaDoorF.fld_82_1 rfl) ?_
    first
      | refine TL_q rfl rfl (QT_load 0 rfl rfl Tryd.underlying3 rfl rfl rfl (fun _ => rfl)) ?_
      | refine TL_q rfl rfl (QT_load 1 rfl rfl Tryd.underlying3 rfl rfl rfl (fun _ => rfl)) ?_
      | refine TL_q rfl rfl (QT_load 2 rfl rfl Tryd.underlying3 rfl rfl rfl (fun _ => rfl)) ?_
    refine TL_q rfl rfl (QT_move rfl rfl rfl) ?_
    refine TL_q rfl rfl (QT_add rfl rfl rfl rfl (fun _ => ⟨by omega, by omega⟩)) ?_
    refine TL_q rfl rfl (QT_nilCheck rfl rfl rfl) ?_
    refine TL_q rfl rfl (QT_field rfl rfl YtlmbpdlobpcahaaDoorF.fld_82_1 rfl) ?_
    first
      | refine TL_e0 rfl rfl (rfl) (ET_store 0 rfl rfl rfl rfl YtlmbpdlobpcahaaDoorF.sz_3 rfl rfl rfl) ?_
      | refine TL_e0 rfl rfl (rfl) (ET_store 1 rfl rfl rfl rfl YtlmbpdlobpcahaaDoorF.sz_3 rfl rfl rfl) ?_
      | refine TL_e0 rfl rfl (rfl) (ET_store 2 rfl rfl rfl rfl YtlmbpdlobpcahaaDoorF.sz_3 rfl rfl rfl) ?_
    rintro _ _ ⟨rfl, rfl⟩
    refine TL_nil ?_
    exact TX_ret (.inr rfl) (res0 rfl) ⟨_, ⟨rfl, rfl⟩, fun _ h => h⟩
theorem reader_ok (w0 : World) (rb : Nat) (bv : Value) (bs : List Nat) (hb : ∀ c ∈ bs, c < 256) (hl : bs.length ≤ 140737488355328) :
    HandOk w0 80 (.pointer (some ⟨rb, 0, none⟩)) 114 (goR bs) (·.1) (RepR rb bv) (fun η => SlA (St w0 η) bv 1 bs.length (byV bs)) where
  cal := YtlmbpdlobpcahaaDoorF.cal_114
  met := by
    obtain ⟨i, m, h1, h2, h3, h4⟩ := met_R
    exact method_ptr h1 h2 h3 h4 Tryd.underlying80
  nil := by
    obtain ⟨i, m, h1, h2, h3, h4⟩ := met_R
    exact nilAhead_ptr h1 h2 h3 h4
  lt := fun s v w hv => by unfold goR; split; exact getV_lt ..; exact hv
  grow := fun s v w => by unfold goR; split <;> exact Nat.le_refl _
  more := fun η b h => h.mono fun _ h => h.tail
  goes := fun η K s pb tt cells off v w hO hK hs hc _ hw => by
    subst hK
    exact (reader_goes w0 η rb bv bs hb hl s pb tt cells off v w hO hs hc hw).mono fun z A' ⟨hz, hA⟩ => ⟨A', ⟨hz, _, rfl, hA⟩, fun _ h => h⟩
theorem layer_goes (w0 : World) (η K0 : Heap) (lb rb : Nat) (s : List Bool × Int) (pb : Nat) (tt : TypeId) (cells : List Value) (off v w : Nat) (hK : RowAt rb s.1 K0) (hs : s.1.length ≤ 100000) (hc : cells[off]? = some (.int .u32 (v : Int))) (hv : v < 4294967296) (hw : w ≤ 32) :
    CallsT Tryd.prog 117 [.pointer (some ⟨lb, 0, none⟩), .pointer (some ⟨pb, off, none⟩), .int .i64 (w : Int)] (St w0 ((pb, tt, cells) :: (lb, 151, [.pointer (some ⟨rb, 0, none⟩), .int .i64 s.2]) :: (K0 ++ η))) fun z A' => z = .tuple #[] ∧ ∃ K', RowAt rb (goL s v w).2.1 K' ∧ A' = St w0 ((pb, tt, cells) :: (lb, 151, [.pointer (some ⟨rb, 0, none⟩), .int .i64 (goL s v w).2.2]) :: (K' ++ η)) := by
  obtain ⟨l, e⟩ := s
  have hput : CallsT Tryd.prog 118 [.pointer (some ⟨rb, 0, none⟩), .int .u32 (v : Int), .int .i64 (w : Int)] (St w0 ((pb, tt, cells) :: (lb, 151, [.pointer (some ⟨rb, 0, none⟩), .int .i64 e]) :: (K0 ++ η))) fun r A' => ∃ K', r = .int .i64 (putE l.length v w) ∧ RowAt rb (putL l v w) K' ∧ A' = St w0 ((pb, tt, cells) :: (lb, 151, [.pointer (some ⟨rb, 0, none⟩), .int .i64 e]) :: (K' ++ η)) := by
    have h := put_spec w0 ((pb, tt, cells) :: (lb, 151, [.pointer (some ⟨rb, 0, none⟩), .int .i64 e]) :: η) K0 rb l v w hK hv ⟨by omega, by omega⟩ (Nat.le_trans hs (by decide))
    refine fun w hA => (h.mono ?_) w (hA.cnt fun p => by simp only [List.countP_append, List.countP_cons]; omega)
    rintro r A' ⟨K', hr, hK', rfl⟩
    exact ⟨_, ⟨K', hr, hK', rfl⟩, fun w h => h.cnt fun p => by simp only [List.countP_append, List.countP_cons]; omega⟩
  refine CallsT.body Tryd.func117 rfl rfl ?_
  simp only [Tryd.ntmps117, slotsOf, Nat.reduceAdd]
  refine TC_seq ?_
  refine TC_reg ?_
  refine TL_q rfl rfl (QT_move rfl rfl rfl) ?_
  refine TL_q rfl rfl (QT_nilCheck rfl rfl rfl) ?_
  refine TL_q rfl rfl (QT_field rfl rfl YtlmbpdlobpcahaaDoorF.fld_151_1 rfl) ?_
  first
    | refine TL_q rfl rfl (QT_load 0 rfl rfl Tryd.underlying32 rfl rfl rfl (fun _ => rfl)) ?_
    | refine TL_q rfl rfl (QT_load 1 rfl rfl Tryd.underlying32 rfl rfl rfl (fun _ => rfl)) ?_
    | refine TL_q rfl rfl (QT_load 2 rfl rfl Tryd.underlying32 rfl rfl rfl (fun _ => rfl)) ?_
  refine TL_q rfl rfl (QT_eql rfl rfl rfl rfl) ?_
  refine TL_nil ?_
  refine TX_then ?_
  first
    | refine TC_cond_dec rfl (fun h10 => ?_) (fun h10 => ?_)
    | refine TC_cond rfl (fun h10 => ?_) (fun h10 => ?_)
  ·
    have eg : goL (l, e) v w = (v, (putL l v w, putE l.length v w)) := by unfold goL; rw [if_pos h10]
    rw [eg]
    refine TC_draw [(0, 0), (1, 0), (2, 0), (3, 0), (4, 0), (5, 0), (6, 0), (7, 0), (8, 0), (9, 1), (10, 0), (11, 0), (12, 1)] YtlmbpdlobpcahaaDoorF.mixed (by kernel_rfl) (St.calm _ _) ?_
    refine TV_q rfl rfl rfl (fun _ => QT_move rfl rfl rfl) ?_
    refine TV_q rfl rfl rfl (fun _ => QT_move rfl rfl rfl) ?_
    refine TV_q rfl rfl rfl (fun _ => QT_nilCheck rfl rfl rfl) ?_
    refine TV_q rfl rfl rfl (fun _ => QT_field rfl rfl YtlmbpdlobpcahaaDoorF.fld_151_0 rfl) ?_
    first
      | refine TV_ql rfl rfl rfl (QT_load 0 rfl rfl Tryd.underlying148 rfl rfl rfl (fun _ => rfl)) ?_
      | refine TV_ql rfl rfl rfl (QT_load 1 rfl rfl Tryd.underlying148 rfl rfl rfl (fun _ => rfl)) ?_
      | refine TV_ql rfl rfl rfl (QT_load 2 rfl rfl Tryd.underlying148 rfl rfl rfl (fun _ => rfl)) ?_
    refine TV_q rfl rfl rfl (fun _ => QT_move rfl rfl rfl) ?_
    refine TV_q rfl rfl rfl (fun _ => QT_nilCheck rfl rfl rfl) ?_
    refine TV_ql rfl rfl rfl (QT_load 0 rfl rfl Tryd.underlying62 rfl rfl rfl (fun _ => hc)) ?_
    refine TV_q rfl rfl rfl (fun _ => QT_move rfl rfl rfl) ?_
    refine TV_e rfl rfl rfl rfl (rfl) (ET_call rfl YtlmbpdlobpcahaaDoorF.cal_118 rfl (hput)) ?_
    rintro _ _ ⟨K', rfl, hK', rfl⟩
    refine ⟨_, .drop (by kernel_rfl) (.drop (by kernel_rfl) (.nil)), ?_⟩
    refine TV_q rfl rfl rfl (fun _ => QT_nilCheck rfl rfl rfl) ?_
    refine TV_q rfl rfl rfl (fun _ => QT_field rfl rfl YtlmbpdlobpcahaaDoorF.fld_151_1 rfl) ?_
    first
      | refine TV_e0 rfl rfl rfl (rfl) (ET_store 0 rfl rfl rfl rfl YtlmbpdlobpcahaaDoorF.sz_32 rfl rfl rfl) ?_
      | refine TV_e0 rfl rfl rfl (rfl) (ET_store 1 rfl rfl rfl rfl YtlmbpdlobpcahaaDoorF.sz_32 rfl rfl rfl) ?_
      | refine TV_e0 rfl rfl rfl (rfl) (ET_store 2 rfl rfl rfl rfl YtlmbpdlobpcahaaDoorF.sz_32 rfl rfl rfl) ?_
    rintro _ _ ⟨rfl, rfl⟩
    refine ⟨_, .nil, ?_⟩
    refine TV_end ?_
    exact TX_ret (.inr rfl) (res0 rfl) ⟨_, ⟨rfl, K', hK', rfl⟩, fun _ h => h⟩
  ·
    refine TC_skip ?_
    have eg : goL (l, e) v w = (v, (l, e)) := by unfold goL; rw [if_neg h10]
    rw [eg]
    exact TX_ret (.inr rfl) (res0 rfl) ⟨_, ⟨rfl, K0, hK, rfl⟩, fun _ h => h⟩
theorem putL_grow (l : List Bool) (v w : Nat) : (putL l v w).length ≤ l.length + w := by
  unfold putL
  split
  · rw [List.length_append, bitsN_len, Int.toNat_natCast]; exact Nat.le_refl _
  · omega
theorem layer_ok (w0 : World) (lb rb : Nat) : HandOk w0 147 (.pointer (some ⟨lb, 0, none⟩)) 117 goL (·.1.length) (RepL lb rb) (fun _ => True) where
  cal := YtlmbpdlobpcahaaDoorF.cal_117
  met := by
    obtain ⟨i, m, h1, h2, h3, h4⟩ := met_L
    exact method_ptr h1 h2 h3 h4 Tryd.underlying147
  nil := by
    obtain ⟨i, m, h1, h2, h3, h4⟩ := met_L
    exact nilAhead_ptr h1 h2 h3 h4
  lt := fun s v w hv => hv
  grow := fun s v w => by unfold goL; dsimp only; split; exact putL_grow ..; exact Nat.le_add_right ..
  more := fun _ _ _ => trivial
  goes := fun η K s pb tt cells off v w _ hK hs hc hv hw => by
    obtain ⟨K0, hK0, rfl⟩ := hK
    have hset : setAt cells off [.int .u32 (v : Int)] = cells := by
      simp only [setAt]
      rw [set_same hc]
    refine (layer_goes w0 η K0 lb rb s pb tt cells off v w hK0 hs hc hv hw).mono fun z A' ⟨hz, K', hK', hA⟩ => ⟨A', ⟨hz, _, ⟨K', hK', rfl⟩, ?_⟩, fun _ h => h⟩
    rw [hA, show (goL s v w).1 = v from rfl, hset]; rfl
end Go.Proofs.YtlmbpdlobpcahaaDoor

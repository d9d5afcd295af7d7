/- TRIANGLES OF VERTICES: vertices as lists of cells; a triangle without flags; copies. -/
import Derived.Test.YtannaanbadaflaaDoorM
import Derived.Test.YtannaanbadaflaaDoorK
import Derived.Test.YtannaanbadaflaaDoorG01d
import Derived.Test.YtannaanbadaflaaDoorL08b
namespace Go.Proofs.YtannaanbadaflaaDoor
open Go Go.Gx Go.RowKit
set_option maxRecDepth 100000

def All7 (rs : List (List Value)) : Prop := ∀ r ∈ rs, Ints recK r
theorem recs_of : ∀ {n : Nat} {xs : List Value}, Ints (rep n recK) xs → ∃ rs : List (List Value), xs = rs.flatten ∧ rs.length = n ∧ All7 rs
  | 0, xs, h => by
    rw [show rep 0 recK = [] from rfl] at h
    obtain rfl := h.inv_nil
    exact ⟨[], rfl, rfl, fun _ h => absurd h List.not_mem_nil⟩
  | n + 1, xs, h => by
    rw [rep_succ] at h
    obtain ⟨h1, h2⟩ := h.split
    obtain ⟨rs, hrs, hl, ha⟩ := recs_of h2
    exact ⟨xs.take recK.length :: rs, by rw [List.flatten_cons, ← hrs, List.take_append_drop], by rw [List.length_cons, hl], fun r hr => by
      rcases List.mem_cons.1 hr with rfl | hr
      · exact h1
      · exact ha r hr⟩
theorem flat_ints {s : Nat} {ks : List IntKind} : ∀ {rs : List (List Value)}, (∀ r ∈ rs, Ints ks r) → Ints (rep rs.length ks) rs.flatten
  | [], _ => by simpa [rep] using Ints.nil
  | r :: rs, h => by
    rw [List.length_cons, rep_succ, List.flatten_cons]
    exact (h r (List.mem_cons_self ..)).append (flat_ints (s := s) fun x hx => h x (List.mem_cons_of_mem _ hx))
theorem flat_len {s : Nat} : ∀ {rs : List (List Value)}, (∀ r ∈ rs, r.length = s) → rs.flatten.length = rs.length * s
  | [], _ => by simp
  | r :: rs, h => by
    rw [List.flatten_cons, List.length_append, h r (List.mem_cons_self ..), flat_len fun x hx => h x (List.mem_cons_of_mem _ hx), List.length_cons, Nat.add_mul]; omega
theorem flat_at {s : Nat} : ∀ {rs : List (List Value)} {i : Nat} {r : List Value}, (∀ r ∈ rs, r.length = s) → rs[i]? = some r → (rs.flatten.drop (i * s)).take s = r ∧ i * s + s ≤ rs.flatten.length
  | [], i, r, _, h => by simp at h
  | x :: rs, 0, r, hs, h => by
    simp only [List.getElem?_cons_zero, Option.some.injEq] at h
    subst h
    have hl := hs x (List.mem_cons_self ..)
    rw [Nat.zero_mul, List.drop_zero, List.flatten_cons, ← hl, List.take_left]
    exact ⟨rfl, by rw [List.length_append]; omega⟩
  | x :: rs, i + 1, r, hs, h => by
    have hl := hs x (List.mem_cons_self ..)
    have ih := flat_at (rs := rs) (i := i) (r := r) (fun y hy => hs y (List.mem_cons_of_mem _ hy)) (by simpa using h)
    rw [List.flatten_cons, show (i + 1) * s = x.length + i * s by rw [hl, Nat.add_mul]; omega, ← List.drop_drop, List.drop_left]
    exact ⟨ih.1, by rw [List.length_append]; omega⟩
theorem flat_drop {s : Nat} : ∀ {rs : List (List Value)} {k : Nat}, (∀ r ∈ rs, r.length = s) → rs.flatten.drop (k * s) = (rs.drop k).flatten
  | _, 0, _ => by simp
  | [], k + 1, _ => by simp
  | x :: rs, k + 1, hs => by
    have hl := hs x (List.mem_cons_self ..)
    rw [List.flatten_cons, show (k + 1) * s = x.length + k * s by rw [hl, Nat.add_mul]; omega, ← List.drop_drop, List.drop_left, List.drop_succ_cons]
    exact flat_drop fun y hy => hs y (List.mem_cons_of_mem _ hy)
theorem All7.len {rs : List (List Value)} (h : All7 rs) : ∀ r ∈ rs, r.length = 7 := fun r hr => (h r hr).length
theorem All7.drop {rs : List (List Value)} (h : All7 rs) (k : Nat) : All7 (rs.drop k) := fun r hr => h r (List.mem_of_mem_drop hr)

/-- a vertex's flag; a vertex without it -/
def flagR (r : List Value) : Nat := match r with
  | .int _ z :: _ => z.toNat
  | _ => 0
def bareR (r : List Value) : List Value := match r with
  | _ :: t => .int .u8 0 :: t
  | [] => []
theorem flagR_spec {r : List Value} (h : Ints recK r) : r[0]? = some (.int .u8 (flagR r : Int)) ∧ flagR r ≤ 255 := by
  obtain ⟨z, cs, rfl, hw, _⟩ := (show Ints (.u8 :: recK.tail) r from h).inv
  have hz := wf_u8 hw
  have hf : flagR (.int .u8 z :: cs) = z.toNat := rfl
  rw [hf]
  refine ⟨?_, by omega⟩
  show some (Value.int .u8 z) = _
  rw [Int.toNat_of_nonneg hz.1]
theorem bareR_ints {r : List Value} (h : Ints recK r) : Ints recK (bareR r) := by
  obtain ⟨z, cs, rfl, hw, h2⟩ := (show Ints (.u8 :: recK.tail) r from h).inv
  exact .cons (by decide) h2
theorem bareR_len (r : List Value) : (bareR r).length = r.length := by cases r <;> rfl
def T3 (a b c : List Value) : List Value := a ++ (b ++ c)
theorem T3_ints {a b c : List Value} (ha : Ints recK a) (hb : Ints recK b) (hc : Ints recK c) : Ints triK (T3 a b c) := by
  have e : triK = recK ++ (recK ++ recK) := by decide
  rw [e]; exact ha.append (hb.append hc)
theorem T3_len {a b c : List Value} (ha : a.length = 7) (hb : b.length = 7) (hc : c.length = 7) : (T3 a b c).length = 21 := by simp [T3, ha, hb, hc]
theorem T3_at {a b c : List Value} (ha : a.length = 7) (hb : b.length = 7) (hc : c.length = 7) : ((T3 a b c).drop (0 * 7)).take 7 = a ∧ ((T3 a b c).drop (1 * 7)).take 7 = b ∧ ((T3 a b c).drop (2 * 7)).take 7 = c := by
  obtain ⟨f, rfl⟩ := tab' (.bool false) a ha
  obtain ⟨g, rfl⟩ := tab' (.bool false) b hb
  obtain ⟨h, rfl⟩ := tab' (.bool false) c hc
  exact ⟨rfl, rfl, rfl⟩
theorem seg3 {a b c zl : List Value} (ha : a.length = 7) (hb : b.length = 7) (hc : c.length = 7) (hz : zl = zs triK) : segs ((List.range 3).map fun i => (i * 7, 7)) zl [(0, .agg a.toArray), (1, .agg b.toArray), (2, .agg c.toArray)] 0 = some (T3 a b c) := by
  subst hz
  obtain ⟨f, rfl⟩ := tab' (.bool false) a ha
  obtain ⟨g, rfl⟩ := tab' (.bool false) b hb
  obtain ⟨h, rfl⟩ := tab' (.bool false) c hc
  kernel_rfl
def bK (t : List Value) : Nat → List Value
  | 0 => t
  | k + 1 => setAt (bK t k) (0 + k * 7 + 0) [.int .u8 0]
theorem bK_len (t : List Value) : ∀ k, (bK t k).length = t.length
  | 0 => rfl
  | k + 1 => by rw [bK, setAt_length, bK_len t k]
theorem bK_eq {a b c : List Value} (ha : a.length = 7) (hb : b.length = 7) (hc : c.length = 7) : bK (T3 a b c) 3 = T3 (bareR a) (bareR b) (bareR c) := by
  obtain ⟨f, rfl⟩ := tab' (.bool false) a ha
  obtain ⟨g, rfl⟩ := tab' (.bool false) b hb
  obtain ⟨h, rfl⟩ := tab' (.bool false) c hc
  kernel_rfl

theorem bare_spec (w0 : World) (η : Heap) (a b c : List Value) (ha : Ints recK a) (hb : Ints recK b) (hc : Ints recK c) :
    CallsT Tryd.prog 71 [.agg (T3 a b c).toArray] (St w0 η) fun v A' => v = .agg (T3 (bareR a) (bareR b) (bareR c)).toArray ∧ A' = St w0 η := by
  have hTl : (T3 a b c).length = 21 := T3_len ha.length hb.length hc.length
  have hi := T3_ints (bareR_ints ha) (bareR_ints hb) (bareR_ints hc)
  have hsz : Sz Tryd.prog 65 (T3 (bareR a) (bareR b) (bareR c)).length := by rw [hi.length]; exact YtannaanbadaflaaDoorF.sz_65
  refine CallsT.body Tryd.func71 rfl rfl ?_
  simp only [Tryd.ntmps71, slotsOf, Nat.reduceAdd]
  refine TC_seq ?_
  refine TC_reg ?_
  refine TL_e rfl rfl rfl (rfl) (ET_box rfl rfl) ?_
  rintro _ _ ⟨b1, rfl, rfl⟩
  refine TL_e rfl rfl rfl (rfl) (ET_alloc rfl YtannaanbadaflaaDoorF.zero_65) ?_
  rintro _ _ ⟨b2, rfl, rfl⟩
  refine TL_nil ?_
  refine TX_then ?_
  refine TC_seq ?_
  refine TC_seq ?_
  refine TC_reg ?_
  refine TL_q rfl rfl (QT_move rfl rfl rfl) ?_
  refine TL_nil ?_
  refine TX_then ?_
  refine TC_block ?_
  refine TC_loop (γ := { k : Nat // k ≤ 3 }) (fun t => [(1, true, .pointer (some ⟨b1, 0, none⟩)), (2, true, .pointer (some ⟨b2, 0, none⟩)), (4, true, .int .i64 (t.1 : Int))]) (fun t => St w0 ((b2, 65, zs triK) :: (b1, 65, bK (T3 a b c) t.1) :: η)) (fun t => 3 - t.1) ⟨0, by omega⟩ ⟨rfl, rfl, rfl, trivial⟩ (fun _ h => h) ?_
  rintro ⟨k, hk⟩
  dsimp only
  have hql := bK_len (T3 a b c) k
  refine TC_seq ?_
  refine TC_reg ?_
  refine TL_q rfl rfl (QT_lss rfl rfl rfl rfl) ?_
  refine TL_nil ?_
  refine TX_then ?_
  refine TC_seq ?_
  first
    | refine TC_cond_dec rfl (fun h5 => ?_) (fun h5 => ?_)
    | refine TC_cond rfl (fun h5 => ?_) (fun h5 => ?_)
  ·
    refine TC_skip ?_
    refine TX_then ?_
    refine TC_seq ?_
    refine TC_block ?_
    refine TC_seq ?_
    refine TC_reg ?_
    refine TL_q rfl rfl (QT_move rfl rfl rfl) ?_
    refine TL_q rfl rfl (QT_assign rfl rfl rfl) ?_
    refine TL_nil ?_
    refine TX_then ?_
    refine TC_reg ?_
    refine TL_q rfl rfl (QT_move rfl rfl rfl) ?_
    refine TL_q rfl rfl (QT_indexArr (k) rfl rfl Tryd.underlying65 YtannaanbadaflaaDoorF.sz_63 rfl rfl (rfl) (fun _ => by omega)) ?_
    refine TL_q rfl rfl (QT_field rfl rfl YtannaanbadaflaaDoorF.fld_63_0 rfl) ?_
    refine TL_e0 rfl rfl (rfl) (ET_store (vs := [.int .u8 0]) 1 rfl rfl rfl rfl YtannaanbadaflaaDoorF.sz_5 rfl rfl (Nat.ble_eq_true_of_le (by rw [hql, hTl]; show 0 + k * 7 + 0 + 1 ≤ 21; omega))) ?_
    rintro _ _ ⟨rfl, rfl⟩
    refine TL_nil ?_
    refine TX_block_normal ?_
    refine TX_then ?_
    refine TC_reg ?_
    refine TL_q rfl rfl (QT_add rfl rfl rfl rfl (fun _ => ⟨by omega, by omega⟩)) ?_
    refine TL_q rfl rfl (QT_move rfl rfl rfl) ?_
    refine TL_nil ?_
    exact TX_round ⟨k + 1, by omega⟩ (by show 3 - (k + 1) < 3 - k; omega) ⟨rfl, rfl, rfl, trivial⟩ (fun _ h => h)
  ·
    refine TC_exit ?_
    refine TX_then_exit ?_
    refine TX_then_exit ?_
    refine TX_block_here ?_
    refine TX_then ?_
    refine TC_seq ?_
    obtain rfl : k = 3 := by omega
    refine TC_A (St w0 ((b2, 65, zs triK) :: (b1, 65, T3 (bareR a) (bareR b) (bareR c)) :: η)) (fun w h => by rw [← bK_eq ha.length hb.length hc.length]; exact h) ?_
    refine TC_reg ?_
    refine TL_q rfl rfl (QT_loadW (cs := T3 (bareR a) (bareR b) (bareR c)) 1 rfl rfl Tryd.underlying65 rfl rfl rfl hsz) ?_
    refine TL_e0 rfl rfl (rfl) (ET_storeW (vs := T3 (bareR a) (bareR b) (bareR c)) 0 rfl rfl rfl hsz rfl (List.all_eq_true.2 hi.oneCell) (by rw [hi.length]; rfl)) ?_
    rintro _ _ ⟨rfl, rfl⟩
    refine TL_nil ?_
    refine TX_then ?_
    refine TC_ret ?_
    exact TX_ret (.inl rfl) (resC 0 rfl rfl Tryd.underlying65 rfl rfl hsz) ⟨_, ⟨rfl, rfl⟩, (fun _ h => by first | exact h | exact h.tail | exact h.tail.tail | exact h.tail.tail.tail | exact h.tail.tail.tail.tail | exact h.tail.tail.tail.tail.tail | exact h.tail.tail.tail.tail.tail.tail | exact h.tail.tail.tail.tail.tail.tail.tail | exact h.tail.tail.tail.tail.tail.tail.tail.tail | exact h.tail.tail.tail.tail.tail.tail.tail.tail.tail | exact h.tail.tail.tail.tail.tail.tail.tail.tail.tail.tail | exact h.tail.tail.tail.tail.tail.tail.tail.tail.tail.tail.tail | exact h.tail.tail.tail.tail.tail.tail.tail.tail.tail.tail.tail.tail | exact h.tail.tail.tail.tail.tail.tail.tail.tail.tail.tail.tail.tail.tail)⟩
theorem plain_spec (w0 : World) (η : Heap) (r : List Value) (h : Ints recK r) :
    CallsT Tryd.prog 25 [.agg r.toArray] (St w0 η) fun v A' => v = .agg (bareR r).toArray ∧ A' = St w0 η := by
  have hl : r.length = 7 := h.length
  have hi := bareR_ints h
  have hsz : Sz Tryd.prog 63 (bareR r).length := by rw [hi.length]; exact YtannaanbadaflaaDoorF.sz_63
  have he : setAt r (0 + 0) [.int .u8 0] = bareR r := by
    obtain ⟨z, cs, rfl, _, _⟩ := (show Ints (.u8 :: recK.tail) r from h).inv
    rfl
  refine CallsT.body Tryd.func25 rfl rfl ?_
  simp only [Tryd.ntmps25, slotsOf, Nat.reduceAdd]
  refine TC_seq ?_
  refine TC_reg ?_
  refine TL_e rfl rfl rfl (rfl) (ET_box rfl rfl) ?_
  rintro _ _ ⟨b1, rfl, rfl⟩
  refine TL_e rfl rfl rfl (rfl) (ET_alloc rfl YtannaanbadaflaaDoorF.zero_63) ?_
  rintro _ _ ⟨b2, rfl, rfl⟩
  refine TL_nil ?_
  refine TX_then ?_
  refine TC_seq ?_
  refine TC_reg ?_
  refine TL_q rfl rfl (QT_field rfl rfl YtannaanbadaflaaDoorF.fld_63_0 rfl) ?_
  refine TL_e0 rfl rfl (rfl) (ET_store (vs := [.int .u8 0]) 1 rfl rfl rfl rfl YtannaanbadaflaaDoorF.sz_5 rfl rfl (Nat.ble_eq_true_of_le (show 0 + 0 + 1 ≤ r.length by omega))) ?_
  rintro _ _ ⟨rfl, rfl⟩
  refine TL_nil ?_
  refine TX_then ?_
  refine TC_seq ?_
  refine TC_A (St w0 ((b2, 63, zs recK) :: (b1, 63, bareR r) :: η)) (fun w h => by rw [← he]; exact h) ?_
  refine TC_reg ?_
  refine TL_q rfl rfl (QT_loadW (cs := bareR r) 1 rfl rfl Tryd.underlying63 rfl rfl rfl hsz) ?_
  refine TL_e0 rfl rfl (rfl) (ET_storeW (vs := bareR r) 0 rfl rfl rfl hsz rfl (List.all_eq_true.2 hi.oneCell) (by rw [hi.length]; rfl)) ?_
  rintro _ _ ⟨rfl, rfl⟩
  refine TL_nil ?_
  refine TX_then ?_
  refine TC_ret ?_
  exact TX_ret (.inl rfl) (resC 0 rfl rfl Tryd.underlying63 rfl rfl hsz) ⟨_, ⟨rfl, rfl⟩, (fun _ h => by first | exact h | exact h.tail | exact h.tail.tail | exact h.tail.tail.tail | exact h.tail.tail.tail.tail | exact h.tail.tail.tail.tail.tail | exact h.tail.tail.tail.tail.tail.tail | exact h.tail.tail.tail.tail.tail.tail.tail | exact h.tail.tail.tail.tail.tail.tail.tail.tail | exact h.tail.tail.tail.tail.tail.tail.tail.tail.tail | exact h.tail.tail.tail.tail.tail.tail.tail.tail.tail.tail | exact h.tail.tail.tail.tail.tail.tail.tail.tail.tail.tail.tail | exact h.tail.tail.tail.tail.tail.tail.tail.tail.tail.tail.tail.tail | exact h.tail.tail.tail.tail.tail.tail.tail.tail.tail.tail.tail.tail.tail)⟩
theorem clipT_spec (w0 : World) (η H : Heap) (v : Value) (n : Nat) (xs : List Value) (hF : Frag 65 21 v n xs H) :
    CallsT Tryd.prog 72 [v] (St w0 (H ++ η)) fun v A' => Frag 65 21 v n xs H ∧ A' = St w0 (H ++ η) := by
  obtain ⟨hl, hF⟩ := hF
  rcases hF with ⟨rfl, rfl, rfl⟩ | ⟨b, cap, rest, rfl, hc, hlen, rfl⟩
  · refine CallsT.body Tryd.func72 rfl rfl ?_
    simp only [Tryd.ntmps72, slotsOf, Nat.reduceAdd]
    refine TC_seq ?_
    refine TC_reg ?_
    refine TL_q rfl rfl (QT_assign rfl rfl rfl) ?_
    refine TL_nil ?_
    refine TX_then ?_
    refine TC_seq ?_
    refine TC_reg ?_
    refine TL_q rfl rfl (QT_move rfl rfl rfl) ?_
    refine TL_q rfl rfl (QT_move rfl rfl rfl) ?_
    refine TL_q rfl rfl (QT_len rfl rfl Tryd.underlying31 rfl) ?_
    refine TL_q rfl rfl (QT_move rfl rfl rfl) ?_
    refine TL_q rfl rfl (QT_len rfl rfl Tryd.underlying31 rfl) ?_
    refine TL_q rfl rfl (QT_slcHM (0) (0) rfl rfl rfl Tryd.underlying31 YtannaanbadaflaaDoorF.sz_65 rfl rfl rfl rfl rfl (fun _ => ⟨by omega, by omega⟩)) ?_
    refine TL_q rfl rfl (QT_assign rfl rfl rfl) ?_
    refine TL_nil ?_
    refine TX_then ?_
    refine TC_ret ?_
    exact TX_ret (.inl rfl) (res1 rfl rfl) ⟨_, ⟨⟨hl, .inl ⟨rfl, rfl, rfl⟩⟩, rfl⟩, fun _ h => h⟩
  · refine CallsT.body Tryd.func72 rfl rfl ?_
    simp only [Tryd.ntmps72, slotsOf, Nat.reduceAdd]
    refine TC_seq ?_
    refine TC_reg ?_
    refine TL_q rfl rfl (QT_assign rfl rfl rfl) ?_
    refine TL_nil ?_
    refine TX_then ?_
    refine TC_seq ?_
    refine TC_reg ?_
    refine TL_q rfl rfl (QT_move rfl rfl rfl) ?_
    refine TL_q rfl rfl (QT_move rfl rfl rfl) ?_
    refine TL_q rfl rfl (QT_len rfl rfl Tryd.underlying31 rfl) ?_
    refine TL_q rfl rfl (QT_move rfl rfl rfl) ?_
    refine TL_q rfl rfl (QT_len rfl rfl Tryd.underlying31 rfl) ?_
    refine TL_q rfl rfl (QT_slcHM (n) (n) rfl rfl rfl Tryd.underlying31 YtannaanbadaflaaDoorF.sz_65 rfl rfl rfl rfl rfl (fun _ => ⟨by omega, by omega⟩)) ?_
    refine TL_q rfl rfl (QT_assign rfl rfl rfl) ?_
    refine TL_nil ?_
    refine TX_then ?_
    refine TC_ret ?_
    exact TX_ret (.inl rfl) (res1 rfl rfl) ⟨_, ⟨⟨hl, .inr ⟨b, n, rest, rfl, ⟨Nat.le_refl _, by omega⟩, Nat.le_trans (Nat.mul_le_mul_right _ hc.1) hlen, rfl⟩⟩, rfl⟩, fun _ h => h⟩
theorem cloneR_spec (w0 : World) (η : Heap) (sv : Value) (n : Nat) (xs : List Value) (hs : SlA (St w0 η) sv 7 n xs) (hi : Ints (rep n recK) xs) (hn : n * 20 ≤ 140737488355328) :
    CallsT Tryd.prog 20 [sv] (St w0 η) fun v A' => ∃ H, Frag 63 7 v n xs H ∧ A' = St w0 (H ++ η) := by
  have hs0 := hs
  obtain ⟨hl, ad, cap, rfl, hcap, hr⟩ := hs
  refine CallsT.body Tryd.func20 rfl rfl ?_
  simp only [Tryd.ntmps20, slotsOf, Nat.reduceAdd]
  refine TC_seq ?_
  refine TC_reg ?_
  refine TL_q rfl rfl (QT_assign rfl rfl rfl) ?_
  refine TL_nil ?_
  refine TX_then ?_
  refine TC_seq ?_
  refine TC_seq ?_
  refine TC_reg ?_
  refine TL_q rfl rfl (QT_move rfl rfl rfl) ?_
  refine TL_q rfl rfl (QT_eqNilS rfl rfl Tryd.underlying28 rfl rfl) ?_
  refine TL_nil ?_
  refine TX_then ?_
  first
    | refine TC_cond_dec rfl (fun h4 => ?_) (fun h4 => ?_)
    | refine TC_cond rfl (fun h4 => ?_) (fun h4 => ?_)
  ·
    refine TC_seq ?_
    refine TC_reg ?_
    refine TL_q rfl rfl (QT_assign rfl rfl rfl) ?_
    refine TL_nil ?_
    refine TX_then ?_
    refine TC_ret ?_
    refine TX_then_ret ?_
    have h0 : n = 0 ∧ xs = [] := by
      rcases hr with h | ⟨b, off, rfl, _⟩
      · subst h; exact ⟨rfl, List.eq_nil_of_length_eq_zero (by simpa using hl)⟩
      · simp at h4
    obtain ⟨rfl, rfl⟩ := h0
    exact TX_ret (.inl rfl) (res1 rfl rfl) ⟨_, ⟨[], Frag.nil _ _, rfl⟩, fun _ h => h⟩
  ·
    refine TC_skip ?_
    refine TX_then ?_
    refine TC_seq ?_
    refine TC_reg ?_
    refine TL_e rfl rfl rfl (rfl) (ET_buildN [] rfl Tryd.underlying28 YtannaanbadaflaaDoorF.sz_63 YtannaanbadaflaaDoorF.zero_63 rfl rfl rfl (fun v hv => absurd hv List.not_mem_nil)) ?_
    rintro _ _ ⟨b5, rfl, rfl⟩
    refine TL_q rfl rfl (QT_move rfl rfl rfl) ?_
    refine TL_e rfl rfl rfl (rfl) (ET_appendL (η := η) (L := []) (H := [(b5, 63, [] ++ [])]) rfl Tryd.underlying28 el_Rec rfl rfl ⟨rfl, .inr ⟨b5, 0, [], rfl, ⟨Nat.le_refl _, by omega⟩, Nat.le_refl _, rfl⟩⟩ (fun _ h => h) hs0.tail hi.oneCell (by omega) (by omega)) ?_
    rintro cv _ ⟨H', hF', rfl⟩
    refine TL_q rfl rfl (QT_assign rfl rfl rfl) ?_
    refine TL_nil ?_
    refine TX_then ?_
    refine TC_ret ?_
    rw [Nat.zero_add, List.nil_append] at hF'
    exact TX_ret (.inl rfl) (res1 rfl rfl) ⟨_, ⟨H', hF', rfl⟩, fun _ h => h⟩
end Go.Proofs.YtannaanbadaflaaDoor

/- SHEETS AND BYTES: what is put is got, and back. Plain. THE CHAPTER's EXAMPLES. WHAT THE ROWS OF THE SHEETS ARE OPENED BY: the sets of numbers of bits; a parameter of bytes, of sheets. (the book's Apart stands in a later text) THE LAWS OF THE SHEETS that ask the document's answer. THE LAW: bytes that are got are put as bytes that are got as the same. TRIANGLES OF VERTICES: vertices as lists of cells; a triangle without flags; copies. TRIANGLES OF VERTICES OF TYPE 4: what the program's strip answers. TRIANGLES OF VERTICES OF TYPE 5: rows of the program, cells of the document. TRIANGLES OF VERTICES OF TYPE 5: the document's cells. TRIANGLES OF VERTICES: the program's answer, and the document's. TRIANGLES OF VERTICES: the document's answer. VERTICES OF A TEXT; letters of triangles; the chapter's answers. LETTERS of triangles; whether a text's triangles are these; the chapter's answers. Are a text's triangles these? The chapter's answers. A PATCH OF A SHEET, WHOLE: what the program's own function makes of a sheet's cells and of the patch's ahead. THE PATCHES OF SHEETS: what the program's own function answers. -/
import Derived.Test.YtjdaglmkljbfkaaGreatDoorDD04
namespace Go.Proofs.YtjdaglmkljbfkaaGreatDoor
open Go Go.Gx
set_option maxRecDepth 100000
section
variable {L : Lay}
theorem dcS_head (l : List Bool) : (dcS L l).headD 0 = flB L l := rfl
theorem dcS_fit (l : List Bool) : fitS L (dcS L l) = true := by
  unfold fitS
  rw [dcS_head]
  exact dec_fit _ _
end
section
variable {L : Lay} (hok : okB L = true) (hty : L.ty = 6 ∨ L.ty = 7)
include hok hty
theorem got_cons {bs : List Nat} {ys : List (List Nat)} (h0 : bs ≠ []) (h : getS L bs = some ys) :
    ∃ zs, ys = dcS L (byB bs) :: zs ∧ tot (fS L (flB L (byB bs))) ≤ 8 * bs.length ∧ getS L (bs.drop (szN L (flB L (byB bs)))) = some zs := by
  rw [getS_cons hok hty h0] at h
  split at h
  · cases h
  · rename_i hc
    obtain ⟨zs, hz, rfl⟩ := Option.map_eq_some_iff.1 h
    exact ⟨zs, rfl, Nat.le_of_not_lt hc, hz⟩
theorem got_facts : ∀ (k : Nat) {bs : List Nat} {ys : List (List Nat)}, bs.length ≤ k → getS L bs = some ys → (∀ y ∈ ys, ShF y) ∧ ys.all (fitS L) = true ∧ (bytesS L ys).length = bs.length
  | 0, bs, ys, hk, h => by
    obtain rfl : bs = [] := List.length_eq_zero_iff.1 (by omega)
    rw [getS_nil] at h
    cases h
    exact ⟨fun _ h => absurd h List.not_mem_nil, rfl, rfl⟩
  | k + 1, bs, ys, hk, h => by
    by_cases h0 : bs = []
    · subst h0
      rw [getS_nil] at h
      cases h
      exact ⟨fun _ h => absurd h List.not_mem_nil, rfl, rfl⟩
    · obtain ⟨zs, rfl, ht, hz⟩ := got_cons hok hty h0 h
      have hb : 0 < bs.length := List.length_pos_iff.2 h0
      have h1 := (szN_pos hok hty (flB L (byB bs))).1
      have hsz : szN L (flB L (byB bs)) = (tot (fS L (flB L (byB bs))) + 7) / 8 := rfl
      obtain ⟨h2, h3, h4⟩ := got_facts k (by rw [List.length_drop]; omega) hz
      have hsh := dcS_shf L (byB bs)
      refine ⟨fun y hy => ?_, ?_, ?_⟩
      · rcases List.mem_cons.1 hy with rfl | hy
        · exact hsh
        · exact h2 y hy
      · rw [List.all_cons, dcS_fit, h3]; rfl
      · have e : bytesS L (dcS L (byB bs) :: zs) = packS L (dcS L (byB bs)) ++ bytesS L zs := by simp [bytesS]
        rw [e, List.length_append, h4, packS_len hsh, dcS_head, List.length_drop]
        generalize tot (fS L (flB L (byB bs))) = T at *
        generalize szN L (flB L (byB bs)) = m at *
        omega
end
end Go.Proofs.YtjdaglmkljbfkaaGreatDoor
namespace Go.Proofs.YtjdaglmkljbfkaaGreatDoor
open Go Go.Gx Go.RowKit
set_option maxRecDepth 100000
end Go.Proofs.YtjdaglmkljbfkaaGreatDoor
namespace Go.Proofs.YtjdaglmkljbfkaaGreatDoor
open Go Go.Gx Go.RowKit Go.ChangeShapes Go.WideShapes Go.ChangeAt
set_option maxRecDepth 100000

theorem flat_Byte : flat Tryz.prog 8 5 = some byteK := by kernel_rfl
theorem open_bytesB {H : Type} {enc : TypeId × Value → H} {W : World} {base b0 : Nat} {spare : Nat → Bool} {held : Bool} {r : Reach} {v : Value} {d : DataW H} {p : List MemPlace}
    (hv : Value.okWide Tryz.prog W r b0 28 v) (h : DataW.Trod enc Tryz.prog W base spare held 28 v d p) (hw : ∀ m ∈ d.weights Tryz.prog 28, m ≤ reachBytes) :
    ∃ bs : List Nat, SlA (St W []) v 1 bs.length (byV bs) ∧ (∀ c ∈ bs, c < 256) ∧ bs.length ≤ 140737488351232 := by
  obtain ⟨n, xs, hs, hi, hn⟩ := open_slw Tryz.underlying28 flat_Byte (by decide) (show Tryz.prog.bytesOf 5 = 1 by kernel_rfl) hv h hw
  obtain ⟨bs, rfl, rfl, hb⟩ := byV_of hi
  exact ⟨bs, hs, hb, by omega⟩
theorem flatS_ints : ∀ {ys : List (List Nat)}, (∀ y ∈ ys, ShF y) → Ints (rep ys.length sheetK) (flatS ys)
  | [], _ => .nil
  | y :: ys, h => by
    have e : flatS (y :: ys) = shV y ++ flatS ys := by simp [flatS]
    have e2 : rep (y :: ys).length sheetK = sheetK ++ rep ys.length sheetK := by simp [rep, List.replicate_succ]
    rw [e, e2]
    exact (shV_ints (h y (List.mem_cons_self ..))).append (flatS_ints fun z hz => h z (List.mem_cons_of_mem _ hz))
end Go.Proofs.YtjdaglmkljbfkaaGreatDoor
namespace Go.Proofs.YtjdaglmkljbfkaaGreatDoor
end Go.Proofs.YtjdaglmkljbfkaaGreatDoor
namespace Go.Proofs.YtjdaglmkljbfkaaGreatDoor
open Go Go.Gx Go.RowKit
set_option maxRecDepth 100000
def mkB : List Value := [.int .u8 171, .int .u8 171, .int .u8 171]
theorem twin_Bytes (w0 : Base) (η : Heap) (va : Value) (n : Nat) (xs : List Value) (ha : SlA (St w0 η) va 1 n xs) (hi : Ints (rep n byteK) xs) (hn : n ≤ 1000000) :
    CallsT Tryz.prog 6 [va] (St w0 η) fun v A' => ∃ b, v = .slice (some ⟨b, 0, none⟩) n (n + 3) ∧ A' = St w0 ((b, 5, xs ++ mkB) :: η) := by
  refine CallsT.body Tryz.func6 rfl rfl ?_
  simp only [Tryz.ntmps6, slotsOf, Nat.reduceAdd]
  refine TC_seq ?_
  refine TC_reg ?_
  refine TL_q rfl rfl (QT_assign rfl rfl rfl) ?_
  refine TL_nil ?_
  refine TX_then ?_
  refine TC_seq ?_
  refine TC_reg ?_
  refine TL_q rfl rfl (QT_move rfl rfl rfl) ?_
  refine TL_e rfl rfl rfl (rfl) (ET_call rfl YtjdaglmkljbfkaaGreatDoorF.cal_25 rfl (twin_Byte w0 _ va n xs 171 ha hi (by decide) hn)) ?_
  rintro _ _ ⟨b5, rfl, rfl⟩
  refine TL_q rfl rfl (QT_assign rfl rfl rfl) ?_
  refine TL_nil ?_
  refine TX_then ?_
  refine TC_ret ?_
  exact TX_ret (.inl rfl) (res1 rfl rfl) ⟨_, ⟨_, rfl, rfl⟩, (fun _ h => by first | exact h | exact h.tail | exact h.tail.tail | exact h.tail.tail.tail | exact h.tail.tail.tail.tail | exact h.tail.tail.tail.tail.tail | exact h.tail.tail.tail.tail.tail.tail | exact h.tail.tail.tail.tail.tail.tail.tail | exact h.tail.tail.tail.tail.tail.tail.tail.tail | exact h.tail.tail.tail.tail.tail.tail.tail.tail.tail | exact h.tail.tail.tail.tail.tail.tail.tail.tail.tail.tail | exact h.tail.tail.tail.tail.tail.tail.tail.tail.tail.tail.tail | exact h.tail.tail.tail.tail.tail.tail.tail.tail.tail.tail.tail.tail | exact h.tail.tail.tail.tail.tail.tail.tail.tail.tail.tail.tail.tail.tail)⟩
theorem left_Bytes (w0 : Base) (η : Heap) (va : Value) (b n : Nat) (xs : List Value) (ha : SlA (St w0 η) va 1 n xs) (hb : (b, 5, xs ++ mkB) ∈ η) (hi : Ints (rep n byteK) xs) (hn : n ≤ 1000000) :
    CallsT Tryz.prog 12 [.slice (some ⟨b, 0, none⟩) n (n + 3), va] (St w0 η) fun v A' => v = .bool true ∧ A' = St w0 η := by
  refine CallsT.body Tryz.func12 rfl rfl ?_
  simp only [Tryz.ntmps12, slotsOf, Nat.reduceAdd]
  refine TC_seq ?_
  refine TC_reg ?_
  refine TL_q rfl rfl (QT_assign rfl rfl rfl) ?_
  refine TL_nil ?_
  refine TX_then ?_
  refine TC_seq ?_
  refine TC_reg ?_
  refine TL_q rfl rfl (QT_move rfl rfl rfl) ?_
  refine TL_q rfl rfl (QT_move rfl rfl rfl) ?_
  refine TL_cq rfl rfl rfl rfl YtjdaglmkljbfkaaGreatDoorF.cal_36 rfl (fun _ => left_Byte w0 _ va b n xs 171 ha hb hi (by decide) hn) ?_
  refine TL_q rfl rfl (QT_assign rfl rfl rfl) ?_
  refine TL_nil ?_
  refine TX_then ?_
  refine TC_ret ?_
  exact TX_ret (.inl rfl) (res1 rfl rfl) ⟨_, ⟨rfl, rfl⟩, (fun _ h => by first | exact h | exact h.tail | exact h.tail.tail | exact h.tail.tail.tail | exact h.tail.tail.tail.tail | exact h.tail.tail.tail.tail.tail | exact h.tail.tail.tail.tail.tail.tail | exact h.tail.tail.tail.tail.tail.tail.tail | exact h.tail.tail.tail.tail.tail.tail.tail.tail | exact h.tail.tail.tail.tail.tail.tail.tail.tail.tail | exact h.tail.tail.tail.tail.tail.tail.tail.tail.tail.tail | exact h.tail.tail.tail.tail.tail.tail.tail.tail.tail.tail.tail | exact h.tail.tail.tail.tail.tail.tail.tail.tail.tail.tail.tail.tail | exact h.tail.tail.tail.tail.tail.tail.tail.tail.tail.tail.tail.tail.tail)⟩
theorem twinFragB {b n : Nat} {xs : List Value} (hx : xs.length = n * 1) (hn : n ≤ 1000000) : Frag 5 1 (.slice (some ⟨b, 0, none⟩) n (n + 3)) n xs [(b, 5, xs ++ mkB)] :=
  ⟨hx, .inr ⟨b, n + 3, mkB, rfl, ⟨by omega, by omega⟩, by simp only [List.length_append, hx, mkB, List.length_cons, List.length_nil]; omega, rfl⟩⟩
theorem newCells : Bk.new.cells = [.int .i64 0, .slice none 0 0, .slice none 0 0, .slice none 0 0, .slice none 0 0, .slice none 0 0, .slice none 0 0, .slice none 0 0, .slice none 0 0, .slice none 0 0, .slice none 0 0, .slice none 0 0, .slice none 0 0, .slice none 0 0] := rfl
theorem bytesS_ge {L : Lay} (hk : okB L = true) (hty : L.ty = 6 ∨ L.ty = 7) : ∀ {ys : List (List Nat)}, (∀ y ∈ ys, ShF y) → ys.length ≤ (bytesS L ys).length
  | [], _ => by simp
  | y :: ys, h => by
    have h1 := packS_len (L := L) (h y (List.mem_cons_self ..))
    have h2 := (szN_pos hk hty (y.headD 0)).1
    have h3 := bytesS_ge hk hty (ys := ys) fun z hz => h z (List.mem_cons_of_mem _ hz)
    have e : bytesS L (y :: ys) = packS L y ++ bytesS L ys := by simp [bytesS]
    rw [e, List.length_append, List.length_cons]
    omega
theorem errG_zero {L : Lay} {bs : List Nat} (h : errG L bs = 0) : (okB L = true ∧ 6 ≤ L.ty) ∧ bs.length ≤ 65536 ∧ getS L bs = some (outG L bs) := by
  have h0 := h
  unfold errG at h
  split at h
  · rename_i hc
    split at h
    · exact absurd h (by decide)
    · rename_i hl
      cases hg : getS L bs with
      | none => rw [hg] at h; exact absurd h (by decide)
      | some ys => exact ⟨hc, by omega, by rw [(errG_ok hc hl hg).2]⟩
  · exact absurd h (by decide)
theorem outG_len (L : Lay) (bs : List Nat) : (outG L bs).length ≤ bs.length := by
  by_cases h : errG L bs = 0
  · obtain ⟨hc, _, hg⟩ := errG_zero h
    obtain ⟨h1, _, h2⟩ := got_facts hc.1 (ty67 hc) bs.length (Nat.le_refl _) hg
    have := bytesS_ge hc.1 (ty67 hc) h1
    omega
  · rw [outG_bad h]; exact Nat.zero_le _
end Go.Proofs.YtjdaglmkljbfkaaGreatDoor
namespace Go.Proofs.YtjdaglmkljbfkaaGreatDoor
open Go Go.Gx Go.RowKit
set_option maxRecDepth 100000
end Go.Proofs.YtjdaglmkljbfkaaGreatDoor
namespace Go.Proofs.YtjdaglmkljbfkaaGreatDoor
open Go Go.Gx Go.RowKit
set_option maxRecDepth 100000

def All7 (rs : List (List Value)) : Prop := ∀ r ∈ rs, Ints recK r
theorem flat_ints {s : Nat} {ks : List IntKind} : ∀ {rs : List (List Value)}, (∀ r ∈ rs, Ints ks r) → Ints (rep rs.length ks) rs.flatten
  | [], _ => by simpa [rep] using Ints.nil
  | r :: rs, h => by
    rw [List.length_cons, rep_succ, List.flatten_cons]
    exact (h r (List.mem_cons_self ..)).append (flat_ints (s := s) fun x hx => h x (List.mem_cons_of_mem _ hx))
theorem flat_len {s : Nat} : ∀ {rs : List (List Value)}, (∀ r ∈ rs, r.length = s) → rs.flatten.length = rs.length * s
  | [], _ => by simp
  | r :: rs, h => by
    rw [List.flatten_cons, List.length_append, h r (List.mem_cons_self ..), flat_len fun x hx => h x (List.mem_cons_of_mem _ hx), List.length_cons, Nat.add_mul]; omega
theorem flat_at {s : Nat} : ∀ {rs : List (List Value)} {i : Nat} {r : List Value}, (∀ r ∈ rs, r.length = s) → rs[i]? = some r → (rs.flatten.drop (i * s)).take s = r ∧ i * s + s ≤ rs.flatten.length
  | [], i, r, _, h => by simp at h
  | x :: rs, 0, r, hs, h => by
    simp only [List.getElem?_cons_zero, Option.some.injEq] at h
    subst h
    have hl := hs x (List.mem_cons_self ..)
    rw [Nat.zero_mul, List.drop_zero, List.flatten_cons, ← hl, List.take_left]
    exact ⟨rfl, by rw [List.length_append]; omega⟩
  | x :: rs, i + 1, r, hs, h => by
    have hl := hs x (List.mem_cons_self ..)
    have ih := flat_at (rs := rs) (i := i) (r := r) (fun y hy => hs y (List.mem_cons_of_mem _ hy)) (by simpa using h)
    rw [List.flatten_cons, show (i + 1) * s = x.length + i * s by rw [hl, Nat.add_mul]; omega, ← List.drop_drop, List.drop_left]
    exact ⟨ih.1, by rw [List.length_append]; omega⟩
theorem flat_drop {s : Nat} : ∀ {rs : List (List Value)} {k : Nat}, (∀ r ∈ rs, r.length = s) → rs.flatten.drop (k * s) = (rs.drop k).flatten
  | _, 0, _ => by simp
  | [], k + 1, _ => by simp
  | x :: rs, k + 1, hs => by
    have hl := hs x (List.mem_cons_self ..)
    rw [List.flatten_cons, show (k + 1) * s = x.length + k * s by rw [hl, Nat.add_mul]; omega, ← List.drop_drop, List.drop_left, List.drop_succ_cons]
    exact flat_drop fun y hy => hs y (List.mem_cons_of_mem _ hy)
theorem All7.len {rs : List (List Value)} (h : All7 rs) : ∀ r ∈ rs, r.length = 7 := fun r hr => (h r hr).length
/-- a vertex's flag; a vertex without it -/
def flagR (r : List Value) : Nat := match r with
  | .int _ z :: _ => z.toNat
  | _ => 0
def bareR (r : List Value) : List Value := match r with
  | _ :: t => .int .u8 0 :: t
  | [] => []
theorem flagR_spec {r : List Value} (h : Ints recK r) : r[0]? = some (.int .u8 (flagR r : Int)) ∧ flagR r ≤ 255 := by
  obtain ⟨z, cs, rfl, hw, _⟩ := (show Ints (.u8 :: recK.tail) r from h).inv
  have hz := wf_u8 hw
  have hf : flagR (.int .u8 z :: cs) = z.toNat := rfl
  rw [hf]
  refine ⟨?_, by omega⟩
  show some (Value.int .u8 z) = _
  rw [Int.toNat_of_nonneg hz.1]
theorem bareR_ints {r : List Value} (h : Ints recK r) : Ints recK (bareR r) := by
  obtain ⟨z, cs, rfl, hw, h2⟩ := (show Ints (.u8 :: recK.tail) r from h).inv
  exact .cons (by decide) h2
def T3 (a b c : List Value) : List Value := a ++ (b ++ c)
theorem T3_ints {a b c : List Value} (ha : Ints recK a) (hb : Ints recK b) (hc : Ints recK c) : Ints triK (T3 a b c) := by
  have e : triK = recK ++ (recK ++ recK) := by decide
  rw [e]; exact ha.append (hb.append hc)
theorem T3_len {a b c : List Value} (ha : a.length = 7) (hb : b.length = 7) (hc : c.length = 7) : (T3 a b c).length = 21 := by simp [T3, ha, hb, hc]
theorem T3_at {a b c : List Value} (ha : a.length = 7) (hb : b.length = 7) (hc : c.length = 7) : ((T3 a b c).drop (0 * 7)).take 7 = a ∧ ((T3 a b c).drop (1 * 7)).take 7 = b ∧ ((T3 a b c).drop (2 * 7)).take 7 = c := by
  obtain ⟨f, rfl⟩ := tab' (.bool false) a ha
  obtain ⟨g, rfl⟩ := tab' (.bool false) b hb
  obtain ⟨h, rfl⟩ := tab' (.bool false) c hc
  exact ⟨rfl, rfl, rfl⟩
theorem seg3 {a b c zl : List Value} (ha : a.length = 7) (hb : b.length = 7) (hc : c.length = 7) (hz : zl = zs triK) : segs ((List.range 3).map fun i => (i * 7, 7)) zl [(0, .agg a.toArray), (1, .agg b.toArray), (2, .agg c.toArray)] 0 = some (T3 a b c) := by
  subst hz
  obtain ⟨f, rfl⟩ := tab' (.bool false) a ha
  obtain ⟨g, rfl⟩ := tab' (.bool false) b hb
  obtain ⟨h, rfl⟩ := tab' (.bool false) c hc
  kernel_rfl
def bK (t : List Value) : Nat → List Value
  | 0 => t
  | k + 1 => setAt (bK t k) (0 + k * 7 + 0) [.int .u8 0]
theorem bK_len (t : List Value) : ∀ k, (bK t k).length = t.length
  | 0 => rfl
  | k + 1 => by rw [bK, setAt_length, bK_len t k]
theorem bK_eq {a b c : List Value} (ha : a.length = 7) (hb : b.length = 7) (hc : c.length = 7) : bK (T3 a b c) 3 = T3 (bareR a) (bareR b) (bareR c) := by
  obtain ⟨f, rfl⟩ := tab' (.bool false) a ha
  obtain ⟨g, rfl⟩ := tab' (.bool false) b hb
  obtain ⟨h, rfl⟩ := tab' (.bool false) c hc
  kernel_rfl

theorem bare_spec (w0 : Base) (η : Heap) (a b c : List Value) (ha : Ints recK a) (hb : Ints recK b) (hc : Ints recK c) :
    CallsT Tryz.prog 133 [.agg (T3 a b c).toArray] (St w0 η) fun v A' => v = .agg (T3 (bareR a) (bareR b) (bareR c)).toArray ∧ A' = St w0 η := by
  have hTl : (T3 a b c).length = 21 := T3_len ha.length hb.length hc.length
  have hi := T3_ints (bareR_ints ha) (bareR_ints hb) (bareR_ints hc)
  have hsz : Sz Tryz.prog 79 (T3 (bareR a) (bareR b) (bareR c)).length := by rw [hi.length]; exact YtjdaglmkljbfkaaGreatDoorF.sz_79
  refine CallsT.body Tryz.func133 rfl rfl ?_
  simp only [Tryz.ntmps133, slotsOf, Nat.reduceAdd]
  refine TC_seq ?_
  refine TC_reg ?_
  refine TL_e rfl rfl rfl (rfl) (ET_box rfl rfl) ?_
  rintro _ _ ⟨b1, rfl, rfl⟩
  refine TL_e rfl rfl rfl (rfl) (ET_alloc rfl YtjdaglmkljbfkaaGreatDoorF.zero_79) ?_
  rintro _ _ ⟨b2, rfl, rfl⟩
  refine TL_nil ?_
  refine TX_then ?_
  refine TC_seq ?_
  refine TC_seq ?_
  refine TC_reg ?_
  refine TL_q rfl rfl (QT_move rfl rfl rfl) ?_
  refine TL_nil ?_
  refine TX_then ?_
  refine TC_block ?_
  refine TC_loop (γ := { k : Nat // k ≤ 3 }) (fun t => [(1, true, .pointer (some ⟨b1, 0, none⟩)), (2, true, .pointer (some ⟨b2, 0, none⟩)), (4, true, .int .i64 (t.1 : Int))]) (fun t => St w0 ((b2, 79, zs triK) :: (b1, 79, bK (T3 a b c) t.1) :: η)) (fun t => 3 - t.1) ⟨0, by omega⟩ ⟨rfl, rfl, rfl, trivial⟩ (fun _ h => h) ?_
  rintro ⟨k, hk⟩
  dsimp only
  have hql := bK_len (T3 a b c) k
  refine TC_seq ?_
  refine TC_reg ?_
  refine TL_q rfl rfl (QT_lss rfl rfl rfl rfl) ?_
  refine TL_nil ?_
  refine TX_then ?_
  refine TC_seq ?_
  refine TC_cond_dec rfl (fun h5 => ?_) (fun h5 => ?_)
  ·
    refine TC_skip ?_
    refine TX_then ?_
    refine TC_seq ?_
    refine TC_block ?_
    refine TC_seq ?_
    refine TC_reg ?_
    refine TL_q rfl rfl (QT_move rfl rfl rfl) ?_
    refine TL_q rfl rfl (QT_assign rfl rfl rfl) ?_
    refine TL_nil ?_
    refine TX_then ?_
    refine TC_reg ?_
    refine TL_q rfl rfl (QT_move rfl rfl rfl) ?_
    refine TL_q rfl rfl (QT_indexArr (k) rfl rfl Tryz.underlying79 YtjdaglmkljbfkaaGreatDoorF.sz_77 rfl rfl (rfl) (fun _ => by omega)) ?_
    refine TL_q rfl rfl (QT_field rfl rfl YtjdaglmkljbfkaaGreatDoorF.fld_77_0 rfl) ?_
    refine TL_e0 rfl rfl (rfl) (ET_store (vs := [.int .u8 0]) 1 rfl rfl rfl rfl YtjdaglmkljbfkaaGreatDoorF.sz_5 rfl rfl (Nat.ble_eq_true_of_le (by rw [hql, hTl]; show 0 + k * 7 + 0 + 1 ≤ 21; omega))) ?_
    rintro _ _ ⟨rfl, rfl⟩
    refine TL_nil ?_
    refine TX_block_normal ?_
    refine TX_then ?_
    refine TC_reg ?_
    refine TL_q rfl rfl (QT_add rfl rfl rfl rfl (fun _ => ⟨by omega, by omega⟩)) ?_
    refine TL_q rfl rfl (QT_move rfl rfl rfl) ?_
    refine TL_nil ?_
    exact TX_round ⟨k + 1, by omega⟩ (by show 3 - (k + 1) < 3 - k; omega) ⟨rfl, rfl, rfl, trivial⟩ (fun _ h => h)
  ·
    refine TC_exit ?_
    refine TX_then_exit ?_
    refine TX_then_exit ?_
    refine TX_block_here ?_
    refine TX_then ?_
    refine TC_seq ?_
    obtain rfl : k = 3 := by omega
    refine TC_A (St w0 ((b2, 79, zs triK) :: (b1, 79, T3 (bareR a) (bareR b) (bareR c)) :: η)) (fun w h => by rw [← bK_eq ha.length hb.length hc.length]; exact h) ?_
    refine TC_reg ?_
    refine TL_q rfl rfl (QT_loadW (cs := T3 (bareR a) (bareR b) (bareR c)) 1 rfl rfl Tryz.underlying79 rfl rfl rfl hsz) ?_
    refine TL_e0 rfl rfl (rfl) (ET_storeW (vs := T3 (bareR a) (bareR b) (bareR c)) 0 rfl rfl rfl hsz rfl (List.all_eq_true.2 hi.oneCell) (by rw [hi.length]; rfl)) ?_
    rintro _ _ ⟨rfl, rfl⟩
    refine TL_nil ?_
    refine TX_then ?_
    refine TC_ret ?_
    exact TX_ret (.inl rfl) (resC 0 rfl rfl Tryz.underlying79 rfl rfl hsz) ⟨_, ⟨rfl, rfl⟩, (fun _ h => by first | exact h | exact h.tail | exact h.tail.tail | exact h.tail.tail.tail | exact h.tail.tail.tail.tail | exact h.tail.tail.tail.tail.tail | exact h.tail.tail.tail.tail.tail.tail | exact h.tail.tail.tail.tail.tail.tail.tail | exact h.tail.tail.tail.tail.tail.tail.tail.tail | exact h.tail.tail.tail.tail.tail.tail.tail.tail.tail | exact h.tail.tail.tail.tail.tail.tail.tail.tail.tail.tail | exact h.tail.tail.tail.tail.tail.tail.tail.tail.tail.tail.tail | exact h.tail.tail.tail.tail.tail.tail.tail.tail.tail.tail.tail.tail | exact h.tail.tail.tail.tail.tail.tail.tail.tail.tail.tail.tail.tail.tail)⟩
theorem plain_spec (w0 : Base) (η : Heap) (r : List Value) (h : Ints recK r) :
    CallsT Tryz.prog 126 [.agg r.toArray] (St w0 η) fun v A' => v = .agg (bareR r).toArray ∧ A' = St w0 η := by
  have hl : r.length = 7 := h.length
  have hi := bareR_ints h
  have hsz : Sz Tryz.prog 77 (bareR r).length := by rw [hi.length]; exact YtjdaglmkljbfkaaGreatDoorF.sz_77
  have he : setAt r (0 + 0) [.int .u8 0] = bareR r := by
    obtain ⟨z, cs, rfl, _, _⟩ := (show Ints (.u8 :: recK.tail) r from h).inv
    rfl
  refine CallsT.body Tryz.func126 rfl rfl ?_
  simp only [Tryz.ntmps126, slotsOf, Nat.reduceAdd]
  refine TC_seq ?_
  refine TC_reg ?_
  refine TL_e rfl rfl rfl (rfl) (ET_box rfl rfl) ?_
  rintro _ _ ⟨b1, rfl, rfl⟩
  refine TL_e rfl rfl rfl (rfl) (ET_alloc rfl YtjdaglmkljbfkaaGreatDoorF.zero_77) ?_
  rintro _ _ ⟨b2, rfl, rfl⟩
  refine TL_nil ?_
  refine TX_then ?_
  refine TC_seq ?_
  refine TC_reg ?_
  refine TL_q rfl rfl (QT_field rfl rfl YtjdaglmkljbfkaaGreatDoorF.fld_77_0 rfl) ?_
  refine TL_e0 rfl rfl (rfl) (ET_store (vs := [.int .u8 0]) 1 rfl rfl rfl rfl YtjdaglmkljbfkaaGreatDoorF.sz_5 rfl rfl (Nat.ble_eq_true_of_le (show 0 + 0 + 1 ≤ r.length by omega))) ?_
  rintro _ _ ⟨rfl, rfl⟩
  refine TL_nil ?_
  refine TX_then ?_
  refine TC_seq ?_
  refine TC_A (St w0 ((b2, 77, zs recK) :: (b1, 77, bareR r) :: η)) (fun w h => by rw [← he]; exact h) ?_
  refine TC_reg ?_
  refine TL_q rfl rfl (QT_loadW (cs := bareR r) 1 rfl rfl Tryz.underlying77 rfl rfl rfl hsz) ?_
  refine TL_e0 rfl rfl (rfl) (ET_storeW (vs := bareR r) 0 rfl rfl rfl hsz rfl (List.all_eq_true.2 hi.oneCell) (by rw [hi.length]; rfl)) ?_
  rintro _ _ ⟨rfl, rfl⟩
  refine TL_nil ?_
  refine TX_then ?_
  refine TC_ret ?_
  exact TX_ret (.inl rfl) (resC 0 rfl rfl Tryz.underlying77 rfl rfl hsz) ⟨_, ⟨rfl, rfl⟩, (fun _ h => by first | exact h | exact h.tail | exact h.tail.tail | exact h.tail.tail.tail | exact h.tail.tail.tail.tail | exact h.tail.tail.tail.tail.tail | exact h.tail.tail.tail.tail.tail.tail | exact h.tail.tail.tail.tail.tail.tail.tail | exact h.tail.tail.tail.tail.tail.tail.tail.tail | exact h.tail.tail.tail.tail.tail.tail.tail.tail.tail | exact h.tail.tail.tail.tail.tail.tail.tail.tail.tail.tail | exact h.tail.tail.tail.tail.tail.tail.tail.tail.tail.tail.tail | exact h.tail.tail.tail.tail.tail.tail.tail.tail.tail.tail.tail.tail | exact h.tail.tail.tail.tail.tail.tail.tail.tail.tail.tail.tail.tail.tail)⟩
theorem clipT_spec (w0 : Base) (η H : Heap) (v : Value) (n : Nat) (xs : List Value) (hF : Frag 79 21 v n xs H) :
    CallsT Tryz.prog 134 [v] (St w0 (H ++ η)) fun v A' => Frag 79 21 v n xs H ∧ A' = St w0 (H ++ η) := by
  obtain ⟨hl, hF⟩ := hF
  rcases hF with ⟨rfl, rfl, rfl⟩ | ⟨b, cap, rest, rfl, hc, hlen, rfl⟩
  · refine CallsT.body Tryz.func134 rfl rfl ?_
    simp only [Tryz.ntmps134, slotsOf, Nat.reduceAdd]
    refine TC_seq ?_
    refine TC_reg ?_
    refine TL_q rfl rfl (QT_assign rfl rfl rfl) ?_
    refine TL_nil ?_
    refine TX_then ?_
    refine TC_seq ?_
    refine TC_reg ?_
    refine TL_q rfl rfl (QT_move rfl rfl rfl) ?_
    refine TL_q rfl rfl (QT_move rfl rfl rfl) ?_
    refine TL_q rfl rfl (QT_len rfl rfl Tryz.underlying61 rfl) ?_
    refine TL_q rfl rfl (QT_move rfl rfl rfl) ?_
    refine TL_q rfl rfl (QT_len rfl rfl Tryz.underlying61 rfl) ?_
    refine TL_q rfl rfl (QT_slcHM (0) (0) rfl rfl rfl Tryz.underlying61 YtjdaglmkljbfkaaGreatDoorF.sz_79 rfl rfl rfl rfl rfl (fun _ => ⟨by omega, by omega⟩)) ?_
    refine TL_q rfl rfl (QT_assign rfl rfl rfl) ?_
    refine TL_nil ?_
    refine TX_then ?_
    refine TC_ret ?_
    exact TX_ret (.inl rfl) (res1 rfl rfl) ⟨_, ⟨⟨hl, .inl ⟨rfl, rfl, rfl⟩⟩, rfl⟩, fun _ h => h⟩
  · refine CallsT.body Tryz.func134 rfl rfl ?_
    simp only [Tryz.ntmps134, slotsOf, Nat.reduceAdd]
    refine TC_seq ?_
    refine TC_reg ?_
    refine TL_q rfl rfl (QT_assign rfl rfl rfl) ?_
    refine TL_nil ?_
    refine TX_then ?_
    refine TC_seq ?_
    refine TC_reg ?_
    refine TL_q rfl rfl (QT_move rfl rfl rfl) ?_
    refine TL_q rfl rfl (QT_move rfl rfl rfl) ?_
    refine TL_q rfl rfl (QT_len rfl rfl Tryz.underlying61 rfl) ?_
    refine TL_q rfl rfl (QT_move rfl rfl rfl) ?_
    refine TL_q rfl rfl (QT_len rfl rfl Tryz.underlying61 rfl) ?_
    refine TL_q rfl rfl (QT_slcHM (n) (n) rfl rfl rfl Tryz.underlying61 YtjdaglmkljbfkaaGreatDoorF.sz_79 rfl rfl rfl rfl rfl (fun _ => ⟨by omega, by omega⟩)) ?_
    refine TL_q rfl rfl (QT_assign rfl rfl rfl) ?_
    refine TL_nil ?_
    refine TX_then ?_
    refine TC_ret ?_
    exact TX_ret (.inl rfl) (res1 rfl rfl) ⟨_, ⟨⟨hl, .inr ⟨b, n, rest, rfl, ⟨Nat.le_refl _, by omega⟩, Nat.le_trans (Nat.mul_le_mul_right _ hc.1) hlen, rfl⟩⟩, rfl⟩, fun _ h => h⟩
theorem cloneR_spec (w0 : Base) (η : Heap) (sv : Value) (n : Nat) (xs : List Value) (hs : SlA (St w0 η) sv 7 n xs) (hi : Ints (rep n recK) xs) (hn : n * 20 ≤ 140737488355328) :
    CallsT Tryz.prog 118 [sv] (St w0 η) fun v A' => ∃ H, Frag 77 7 v n xs H ∧ A' = St w0 (H ++ η) := by
  have hs0 := hs
  obtain ⟨hl, ad, cap, rfl, hcap, hr⟩ := hs
  refine CallsT.body Tryz.func118 rfl rfl ?_
  simp only [Tryz.ntmps118, slotsOf, Nat.reduceAdd]
  refine TC_seq ?_
  refine TC_reg ?_
  refine TL_q rfl rfl (QT_assign rfl rfl rfl) ?_
  refine TL_nil ?_
  refine TX_then ?_
  refine TC_seq ?_
  refine TC_seq ?_
  refine TC_reg ?_
  refine TL_q rfl rfl (QT_move rfl rfl rfl) ?_
  refine TL_q rfl rfl (QT_eqNilS rfl rfl Tryz.underlying31 rfl rfl) ?_
  refine TL_nil ?_
  refine TX_then ?_
  refine TC_cond rfl (fun h4 => ?_) (fun h4 => ?_)
  ·
    refine TC_seq ?_
    refine TC_reg ?_
    refine TL_q rfl rfl (QT_assign rfl rfl rfl) ?_
    refine TL_nil ?_
    refine TX_then ?_
    refine TC_ret ?_
    refine TX_then_ret ?_
    have h0 : n = 0 ∧ xs = [] := by
      rcases hr with h | ⟨b, off, rfl, _⟩
      · subst h; exact ⟨rfl, List.eq_nil_of_length_eq_zero (by simpa using hl)⟩
      · simp at h4
    obtain ⟨rfl, rfl⟩ := h0
    exact TX_ret (.inl rfl) (res1 rfl rfl) ⟨_, ⟨[], Frag.nil _ _, rfl⟩, fun _ h => h⟩
  ·
    refine TC_skip ?_
    refine TX_then ?_
    refine TC_seq ?_
    refine TC_reg ?_
    refine TL_e rfl rfl rfl (rfl) (ET_buildN [] rfl Tryz.underlying31 YtjdaglmkljbfkaaGreatDoorF.sz_77 YtjdaglmkljbfkaaGreatDoorF.zero_77 rfl rfl rfl (fun v hv => absurd hv List.not_mem_nil)) ?_
    rintro _ _ ⟨b5, rfl, rfl⟩
    refine TL_q rfl rfl (QT_move rfl rfl rfl) ?_
    refine TL_e rfl rfl rfl (rfl) (ET_appendL (η := η) (L := []) (H := [(b5, 77, [] ++ [])]) rfl Tryz.underlying31 el_Rec rfl rfl ⟨rfl, .inr ⟨b5, 0, [], rfl, ⟨Nat.le_refl _, by omega⟩, Nat.le_refl _, rfl⟩⟩ (fun _ h => h) hs0.tail hi.oneCell (by omega) (by omega)) ?_
    rintro cv _ ⟨H', hF', rfl⟩
    refine TL_q rfl rfl (QT_assign rfl rfl rfl) ?_
    refine TL_nil ?_
    refine TX_then ?_
    refine TC_ret ?_
    rw [Nat.zero_add, List.nil_append] at hF'
    exact TX_ret (.inl rfl) (res1 rfl rfl) ⟨_, ⟨H', hF', rfl⟩, fun _ h => h⟩
end Go.Proofs.YtjdaglmkljbfkaaGreatDoor
namespace Go.Proofs.YtjdaglmkljbfkaaGreatDoor
open Go Go.Gx Go.RowKit
set_option maxRecDepth 100000

abbrev R := List Value
def B3 (a b c : R) : R := T3 (bareR a) (bareR b) (bareR c)
def stripF : Nat → List R → R → R → R → List R → List R × Int
  | 0, _, _, _, _, out => (out, 0)
  | _ + 1, [], _, _, _, out => (out, 0)
  | f + 1, x :: v, a, b, c, out =>
    if flagR x = 0 then (match v with
      | y :: z :: w => stripF f w x y z (out ++ [B3 x y z])
      | _ => ([], 5))
    else if flagR x = 1 then stripF f v b c x (out ++ [B3 b c x])
    else if flagR x = 2 then stripF f v a c x (out ++ [B3 a c x])
    else ([], 7)
theorem strip_short {f : Nat} {x : R} {v : List R} {a b c : R} {out : List R} (h0 : flagR x = 0) (hv : v.length < 2) : stripF (f + 1) (x :: v) a b c out = ([], 5) := by
  match v, hv with
  | [], _ => simp [stripF, h0]
  | [_], _ => simp [stripF, h0]
  | y :: z :: w, h => simp at h; omega
theorem strip_long {f : Nat} {x y z : R} {w : List R} {a b c : R} {out : List R} (h0 : flagR x = 0) : stripF (f + 1) (x :: y :: z :: w) a b c out = stripF f w x y z (out ++ [B3 x y z]) := by simp [stripF, h0]
theorem strip_one {f : Nat} {x : R} {v : List R} {a b c : R} {out : List R} (h0 : flagR x = 1) : stripF (f + 1) (x :: v) a b c out = stripF f v b c x (out ++ [B3 b c x]) := by simp [stripF, h0]
theorem strip_two {f : Nat} {x : R} {v : List R} {a b c : R} {out : List R} (h0 : flagR x = 2) : stripF (f + 1) (x :: v) a b c out = stripF f v a c x (out ++ [B3 a c x]) := by simp [stripF, h0]
theorem strip_bad {f : Nat} {x : R} {v : List R} {a b c : R} {out : List R} (h0 : flagR x ≠ 0) (h1 : flagR x ≠ 1) (h2 : flagR x ≠ 2) : stripF (f + 1) (x :: v) a b c out = ([], 7) := by simp [stripF, h0, h1, h2]
theorem set3 {a b c x : R} (ha : a.length = 7) (hb : b.length = 7) (hc : c.length = 7) (hx : x.length = 7) : setAt (setAt (T3 a b c) (0 + 1 * 7) c) (0 + 2 * 7) x = T3 a c x := by
  obtain ⟨f, rfl⟩ := tab' (.bool false) a ha
  obtain ⟨g, rfl⟩ := tab' (.bool false) b hb
  obtain ⟨h, rfl⟩ := tab' (.bool false) c hc
  obtain ⟨k, rfl⟩ := tab' (.bool false) x hx
  kernel_rfl
def zR : R := zs recK
theorem zR_ints : Ints recK zR := zs_ints _
/-- what is known at the head of a round -/
structure Stp (w0 : Base) (η : Heap) (n : Nat) (FIN : List R × Int) (rem : List R) (sv : Value) (a b c : R) (out : List R) (fv : Value) (H : Heap) (e : Int) (f : Nat) : Prop where
  sl : SlA (St w0 η) sv 7 rem.length rem.flatten
  all : All7 rem
  ia : Ints recK a
  ib : Ints recK b
  ic : Ints recK c
  io : ∀ t ∈ out, Ints triK t
  fr : Frag 79 21 fv out.length out.flatten H
  few : out.length + rem.length ≤ n
  fin : (e = 0 ∧ stripF f rem a b c out = FIN ∧ rem.length < f) ∨ (e ≠ 0 ∧ FIN = ([], e))
  e64 : e = 0 ∨ e = 5 ∨ e = 7
theorem flatten_snoc (out : List R) (t : R) : (out ++ [t]).flatten = out.flatten ++ t := by simp

set_option maxHeartbeats 1000000 in
theorem strip_spec (w0 : Base) (η : Heap) (sv : Value) (rs : List R) (hs : SlA (St w0 η) sv 7 rs.length rs.flatten) (ha : All7 rs) (hn : rs.length * 60 ≤ 140737488355328) :
    CallsT Tryz.prog 120 [sv] (St w0 η) fun v A' => ∃ pv H, v = .tuple #[pv, .int .i64 (stripF (rs.length + 1) rs zR zR zR []).2] ∧ Frag 79 21 pv (stripF (rs.length + 1) rs zR zR zR []).1.length (stripF (rs.length + 1) rs zR zR zR []).1.flatten H ∧ A' = St w0 (H ++ η) := by
  obtain ⟨FIN, hFIN⟩ : ∃ F, F = stripF (rs.length + 1) rs zR zR zR [] := ⟨_, rfl⟩
  rw [← hFIN]
  refine CallsT.body Tryz.func120 rfl rfl ?_
  simp only [Tryz.ntmps120, slotsOf, Nat.reduceAdd]
  refine TC_seq ?_
  refine TC_reg ?_
  refine TL_q rfl rfl (QT_assign rfl rfl rfl) ?_
  refine TL_q rfl rfl (QT_assign rfl rfl rfl) ?_
  refine TL_nil ?_
  refine TX_then ?_
  refine TC_seq ?_
  refine TC_reg ?_
  refine TL_e rfl rfl rfl (rfl) (ET_alloc rfl YtjdaglmkljbfkaaGreatDoorF.zero_79) ?_
  rintro _ _ ⟨b4, rfl, rfl⟩
  refine TL_nil ?_
  refine TX_then ?_
  refine TC_seq ?_
  refine TC_block ?_
  refine TC_loop (γ := { t : List R × Value × R × R × R × List R × Value × Heap × Int × Nat // Stp w0 η rs.length FIN t.1 t.2.1 t.2.2.1 t.2.2.2.1 t.2.2.2.2.1 t.2.2.2.2.2.1 t.2.2.2.2.2.2.1 t.2.2.2.2.2.2.2.1 t.2.2.2.2.2.2.2.2.1 t.2.2.2.2.2.2.2.2.2 }) (fun t => [(0, true, t.1.2.1), (2, true, t.1.2.2.2.2.2.2.1), (3, true, .int .i64 t.1.2.2.2.2.2.2.2.2.1), (4, true, .pointer (some ⟨b4, 0, none⟩))]) (fun t => St w0 ((b4, 79, T3 t.1.2.2.1 t.1.2.2.2.1 t.1.2.2.2.2.1) :: (t.1.2.2.2.2.2.2.2.1 ++ η))) (fun t => t.1.1.length) ⟨(rs, sv, zR, zR, zR, [], .slice none 0 0, [], 0, rs.length + 1), hs, ha, zR_ints, zR_ints, zR_ints, fun t h => absurd h List.not_mem_nil, Frag.nil _ _, by show 0 + rs.length ≤ rs.length; omega, .inl ⟨rfl, hFIN.symm, Nat.lt_succ_self _⟩, .inl rfl⟩ ⟨rfl, rfl, rfl, rfl, trivial⟩ (fun _ h => h) ?_
  rintro ⟨⟨rem, sv, a, b, c, out, fv, H, e, f⟩, hS⟩
  dsimp only at hS ⊢
  obtain ⟨hsl, hall, hia, hib, hic, hio, hfr, hfew, hfin, he64⟩ := hS
  obtain ⟨_, ad, cap, sb, so, rfl, hcap, had, hrd⟩ := hsl.some
  refine TC_seq ?_
  refine TC_seq ?_
  refine TC_reg ?_
  refine TL_q rfl rfl (QT_move rfl rfl rfl) ?_
  refine TL_q rfl rfl (QT_len rfl rfl Tryz.underlying31 rfl) ?_
  refine TL_q rfl rfl (QT_gtr rfl rfl rfl rfl) ?_
  refine TL_q rfl rfl (QT_move rfl rfl rfl) ?_
  refine TL_q rfl rfl (QT_move rfl rfl rfl) ?_
  refine TL_q rfl rfl (QT_eql rfl rfl rfl rfl) ?_
  refine TL_q rfl rfl (QT_and rfl rfl rfl rfl) ?_
  refine TL_nil ?_
  refine TX_then ?_
  refine TC_cond rfl (fun h12 => ?_) (fun h12 => ?_)
  ·
    simp only [Bool.and_eq_true, decide_eq_true_eq] at h12
    obtain ⟨h12a, rfl⟩ := h12
    obtain ⟨x, v, rfl⟩ : ∃ x v, rem = x :: v := by
      cases rem with
      | nil => simp at h12a
      | cons x v => exact ⟨x, v, rfl⟩
    obtain ⟨_, hF, hfuel⟩ : (0 : Int) = 0 ∧ stripF f (x :: v) a b c out = FIN ∧ (x :: v).length < f := by
      rcases hfin with h | ⟨h, _⟩
      · exact h
      · exact absurd rfl h
    obtain ⟨f, rfl⟩ : ∃ g, f = g + 1 := ⟨f - 1, by omega⟩
    have hix : Ints recK x := hall x (List.mem_cons_self ..)
    have hxl : x.length = 7 := hix.length
    have hav : All7 v := fun r hr => hall r (List.mem_cons_of_mem _ hr)
    obtain ⟨hx0, hle0⟩ := flat_at (s := 7) (i := 0) hall.len (show (x :: v)[0]? = some x from rfl)
    have hzx : Sz Tryz.prog 77 x.length := by rw [hxl]; exact YtjdaglmkljbfkaaGreatDoorF.sz_77
    obtain ⟨hfx, _⟩ := flagR_spec hix
    have hR : ∀ {η' : Heap}, (∀ p : Blk → Bool, η.countP p ≤ η'.countP p) → Rd (St w0 η') sb so (x :: v).flatten := fun h => hrd.mono fun _ hw => hw.cnt h
    have hback := hsl.back (k := 1) (by simp)
    rw [flat_drop (k := 1) hall.len, List.drop_one, List.tail_cons, List.length_cons, Nat.add_sub_cancel] at hback
    refine TC_skip ?_
    refine TX_then ?_
    refine TC_block ?_
    refine TC_scope ?_
    refine TC_seq ?_
    refine TC_reg ?_
    refine TL_q rfl rfl (QT_move rfl rfl rfl) ?_
    refine TL_q rfl rfl (QT_indexG 0 rfl rfl Tryz.underlying31 YtjdaglmkljbfkaaGreatDoorF.sz_77 rfl rfl rfl (fun _ => by simp) (fun _ => had (by simp))) ?_
    refine TL_q rfl rfl (QT_loadRAj (0 * 7) rfl rfl Tryz.underlying77 rfl YtjdaglmkljbfkaaGreatDoorF.sz_77 (hR fun p => by simp only [List.countP_append, List.countP_cons]; omega) rfl (fun _ => hle0) (fun _ => hx0)) ?_
    refine TL_e rfl rfl rfl (rfl) (ET_alloc rfl YtjdaglmkljbfkaaGreatDoorF.zero_77) ?_
    rintro _ _ ⟨b5, rfl, rfl⟩
    refine TL_e0 rfl rfl (rfl) (ET_storeW (vs := x) 0 rfl rfl rfl hzx rfl (List.all_eq_true.2 hix.oneCell) (by rw [hxl]; rfl)) ?_
    rintro _ _ ⟨rfl, rfl⟩
    refine TL_nil ?_
    refine TX_then ?_
    refine TC_seq ?_
    refine TC_reg ?_
    refine TL_q rfl rfl (QT_move rfl rfl rfl) ?_
    refine TL_q rfl rfl (QT_slcL 1 rfl rfl rfl rfl Tryz.underlying31 YtjdaglmkljbfkaaGreatDoorF.sz_77 rfl rfl rfl (fun _ => by simp)) ?_
    refine TL_q rfl rfl (QT_assign rfl rfl rfl) ?_
    refine TL_nil ?_
    refine TX_then ?_
    refine TC_seq ?_
    refine TC_label ?_
    refine TX_then ?_
    refine TC_cut (γ := { t : List R × Value × R × R × R × Int // ∃ rem' e', rem' = t.1 ∧ e' = t.2.2.2.2.2 ∧ SlA (St w0 η) t.2.1 7 t.1.length t.1.flatten ∧ All7 t.1 ∧ Ints recK t.2.2.1 ∧ Ints recK t.2.2.2.1 ∧ Ints recK t.2.2.2.2.1 ∧ t.1.length ≤ v.length ∧ ((e' = 0 ∧ stripF f rem' t.2.2.1 t.2.2.2.1 t.2.2.2.2.1 (out ++ [B3 t.2.2.1 t.2.2.2.1 t.2.2.2.2.1]) = FIN ∧ rem'.length < f) ∨ (e' ≠ 0 ∧ FIN = ([], e'))) ∧ (e' = 0 ∨ e' = 5 ∨ e' = 7) }) (fun t => [(0, true, t.1.2.1), (2, true, fv), (3, true, .int .i64 t.1.2.2.2.2.2), (4, true, .pointer (some ⟨b4, 0, none⟩))]) (fun t => St w0 ((b4, 79, T3 t.1.2.2.1 t.1.2.2.2.1 t.1.2.2.2.2.1) :: (H ++ η))) ?_ ?_
    ·
      refine TC_seq ?_
      have hsz5 : v.length = (x :: v).length - 1 := by simp
      obtain ⟨ad1, had1⟩ : ∃ ad1, ad1 = (if cap = 1 then ad else ad.map (·.add (1 * 7))) := ⟨_, rfl⟩
      rw [← had1] at hback
      refine TC_weaken (σ' := [(0, true, .slice ad1 v.length (cap - 1)), (2, true, fv), (3, true, .int .i64 0), (4, true, .pointer (some ⟨b4, 0, none⟩)), (5, true, .pointer (some ⟨b5, 0, none⟩))]) ⟨by rw [had1]; rfl, rfl, rfl, rfl, rfl, trivial⟩ (fun _ h => h) ?_
      obtain ⟨_, ad1', cap1, sb1, so1, heq1, hcap1, hadd1, hrd1⟩ := hback.some
      obtain ⟨rfl, _, rfl⟩ := Value.slice.inj heq1
      have hR1 : ∀ {η' : Heap}, (∀ p : Blk → Bool, η.countP p ≤ η'.countP p) → Rd (St w0 η') sb1 so1 v.flatten := fun h => hrd1.mono fun _ hw => hw.cnt h
      have hTl := T3_len hia.length hib.length hic.length
      obtain ⟨hT0, hT1, hT2⟩ := T3_at hia.length hib.length hic.length
      have hTi := T3_ints hia hib hic
      refine TC_reg ?_
      refine TL_q rfl rfl (QT_field rfl rfl YtjdaglmkljbfkaaGreatDoorF.fld_77_0 rfl) ?_
      refine TL_q rfl rfl (QT_load 0 rfl rfl Tryz.underlying5 rfl rfl rfl (fun _ => hfx)) ?_
      refine TL_nil ?_
      refine TX_then ?_
      refine TC_block ?_
      refine TC_seq ?_
      refine TC_reg ?_
      refine TL_q rfl rfl (QT_eql rfl rfl rfl rfl) ?_
      refine TL_q rfl rfl (QT_assign rfl rfl rfl) ?_
      refine TL_nil ?_
      refine TX_then ?_
      refine TC_cond_dec rfl (fun h20 => ?_) (fun h20 => ?_)
      ·
        refine TC_seq ?_
        refine TC_seq ?_
        refine TC_reg ?_
        refine TL_q rfl rfl (QT_move rfl rfl rfl) ?_
        refine TL_q rfl rfl (QT_len rfl rfl Tryz.underlying31 rfl) ?_
        refine TL_q rfl rfl (QT_lss rfl rfl rfl rfl) ?_
        refine TL_nil ?_
        refine TX_then ?_
        refine TC_cond_dec rfl (fun h24 => ?_) (fun h24 => ?_)
        ·
          refine TC_seq ?_
          refine TC_reg ?_
          refine TL_q rfl rfl (QT_assign rfl rfl rfl) ?_
          refine TL_nil ?_
          refine TX_then ?_
          refine TC_exit ?_
          refine TX_then_exit ?_
          refine TX_block_here ?_
          exact TX_cut ⟨(v, .slice ad1 v.length (cap - 1), a, b, c, 5), v, 5, rfl, rfl, hback, hav, hia, hib, hic, Nat.le_refl _, .inr ⟨by decide, by rw [← hF, strip_short (by omega) (by omega)]⟩, .inr (.inl rfl)⟩ ⟨rfl, rfl, rfl, rfl, trivial⟩ (fun _ h => h.tail)
        ·
          refine TC_skip ?_
          refine TX_then ?_
          obtain ⟨y, z, w, rfl⟩ : ∃ y z w, v = y :: z :: w := by
            match v, h24 with
            | [], h => simp at h
            | [_], h => simp at h
            | y :: z :: w, _ => exact ⟨y, z, w, rfl⟩
          have hiy : Ints recK y := hav y (by simp)
          have hiz : Ints recK z := hav z (by simp)
          obtain ⟨hy0, hle1⟩ := flat_at (s := 7) (i := 0) hav.len (show (y :: z :: w)[0]? = some y from rfl)
          obtain ⟨hz0, hle2⟩ := flat_at (s := 7) (i := 1) hav.len (show (y :: z :: w)[1]? = some z from rfl)
          have hback2 := hback.back (k := 2) (by simp)
          rw [flat_drop (k := 2) hav.len] at hback2
          have hbl : (y :: z :: w).length - 2 = w.length := by simp
          have hbd : (y :: z :: w).drop 2 = w := rfl
          rw [hbl, hbd] at hback2
          have hxyz : Ints triK (T3 x y z) := T3_ints hix hiy hiz
          refine TC_draw [(0, 0), (1, 0), (2, 0), (3, 0), (4, 0), (5, 0), (6, 0), (7, 0), (8, 0), (9, 0), (10, 1), (11, 0)] YtjdaglmkljbfkaaGreatDoorF.mixed (by kernel_rfl) (St.calm _ _) ?_
          refine TV_ql rfl rfl rfl (QT_loadW (cs := x) 0 rfl rfl Tryz.underlying77 rfl rfl rfl hzx) ?_
          refine TV_q rfl rfl rfl (fun _ => QT_move rfl rfl rfl) ?_
          refine TV_q rfl rfl rfl (fun _ => QT_indexG 0 rfl rfl Tryz.underlying31 YtjdaglmkljbfkaaGreatDoorF.sz_77 rfl rfl rfl (fun _ => by simp) (fun _ => hadd1 (by simp))) ?_
          refine TV_ql rfl rfl rfl (QT_loadRAj (0 * 7) rfl rfl Tryz.underlying77 rfl YtjdaglmkljbfkaaGreatDoorF.sz_77 (hR1 (η' := (b5, 77, x) :: (b4, 79, T3 a b c) :: (H ++ η)) fun p => by simp only [List.countP_append, List.countP_cons]; omega) rfl (fun _ => hle1) (fun _ => hy0)) ?_
          refine TV_q rfl rfl rfl (fun _ => QT_move rfl rfl rfl) ?_
          refine TV_q rfl rfl rfl (fun _ => QT_indexG 1 rfl rfl Tryz.underlying31 YtjdaglmkljbfkaaGreatDoorF.sz_77 rfl rfl rfl (fun _ => by simp) (fun _ => hadd1 (by simp))) ?_
          refine TV_ql rfl rfl rfl (QT_loadRAj (1 * 7) rfl rfl Tryz.underlying77 rfl YtjdaglmkljbfkaaGreatDoorF.sz_77 (hR1 (η' := (b5, 77, x) :: (b4, 79, T3 a b c) :: (H ++ η)) fun p => by simp only [List.countP_append, List.countP_cons]; omega) rfl (fun _ => hle2) (fun _ => hz0)) ?_
          refine TV_q rfl rfl rfl (fun _ => QT_buildArr (out := T3 x y z) rfl rfl YtjdaglmkljbfkaaGreatDoorF.zero_79 Tryz.underlying79 YtjdaglmkljbfkaaGreatDoorF.sz_77 rfl rfl (seg3 hxl hiy.length hiz.length rfl)) ?_
          refine TV_q rfl rfl rfl (fun _ => QT_move rfl rfl rfl) ?_
          refine TV_q rfl rfl rfl (fun _ => QT_slcL 2 rfl rfl rfl rfl Tryz.underlying31 YtjdaglmkljbfkaaGreatDoorF.sz_77 rfl rfl rfl (fun _ => by simp)) ?_
          refine TV_e0 rfl rfl rfl (rfl) (ET_storeW (vs := T3 x y z) 1 rfl rfl rfl (by rw [hxyz.length]; exact YtjdaglmkljbfkaaGreatDoorF.sz_79) rfl (List.all_eq_true.2 hxyz.oneCell) (by rw [hxyz.length, hTl]; rfl)) ?_
          rintro _ _ ⟨rfl, rfl⟩
          refine ⟨_, .drop (by kernel_rfl) (.drop (by kernel_rfl) (.drop (by kernel_rfl) (.nil))), ?_⟩
          refine TV_q rfl rfl rfl (fun _ => QT_assign rfl rfl rfl) ?_
          refine TV_end ?_
          refine TX_block_normal ?_
          exact TX_cut ⟨(w, .slice (if cap - 1 = 2 then ad1 else ad1.map (·.add (2 * 7))) w.length (cap - 1 - 2), x, y, z, 0), w, 0, rfl, rfl, hback2, fun r hr => hav r (by simp [hr]), hix, hiy, hiz, by have e : (y :: z :: w).length = w.length + 2 := rfl; rw [e]; exact Nat.le_add_right _ _, .inl ⟨rfl, by rw [← hF, strip_long (by omega)], by have e : (x :: y :: z :: w).length = w.length + 3 := rfl; rw [e] at hfuel; omega⟩, .inl rfl⟩ ⟨rfl, rfl, rfl, rfl, trivial⟩ (fun _ h => h.tail)
      ·
        refine TC_seq ?_
        refine TC_reg ?_
        refine TL_q rfl rfl (QT_eql rfl rfl rfl rfl) ?_
        refine TL_q rfl rfl (QT_assign rfl rfl rfl) ?_
        refine TL_nil ?_
        refine TX_then ?_
        refine TC_cond_dec rfl (fun h35 => ?_) (fun h35 => ?_)
        ·
          refine TC_reg ?_
          refine TL_q rfl rfl (QT_indexArr (1) rfl rfl Tryz.underlying79 YtjdaglmkljbfkaaGreatDoorF.sz_77 rfl rfl (rfl) (fun _ => by decide)) ?_
          refine TL_q rfl rfl (QT_loadRAj (out := b) (1 * 7) rfl rfl Tryz.underlying77 rfl YtjdaglmkljbfkaaGreatDoorF.sz_77 (Rd.own 1 rfl) rfl (fun _ => by rw [hTl]; decide) (fun _ => hT1)) ?_
          refine TL_q rfl rfl (QT_indexArr (2) rfl rfl Tryz.underlying79 YtjdaglmkljbfkaaGreatDoorF.sz_77 rfl rfl (rfl) (fun _ => by decide)) ?_
          refine TL_q rfl rfl (QT_loadRAj (out := c) (2 * 7) rfl rfl Tryz.underlying77 rfl YtjdaglmkljbfkaaGreatDoorF.sz_77 (Rd.own 1 rfl) rfl (fun _ => by rw [hTl]; decide) (fun _ => hT2)) ?_
          refine TL_q rfl rfl (QT_loadW (cs := x) 0 rfl rfl Tryz.underlying77 rfl rfl rfl hzx) ?_
          refine TL_q rfl rfl (QT_buildArr (out := T3 b c x) rfl rfl YtjdaglmkljbfkaaGreatDoorF.zero_79 Tryz.underlying79 YtjdaglmkljbfkaaGreatDoorF.sz_77 rfl rfl (seg3 hib.length hic.length hxl rfl)) ?_
          refine TL_e0 rfl rfl (rfl) (ET_storeW (vs := T3 b c x) 1 rfl rfl rfl (by rw [T3_len hib.length hic.length hxl]; exact YtjdaglmkljbfkaaGreatDoorF.sz_79) rfl (List.all_eq_true.2 (T3_ints hib hic hix).oneCell) (by rw [T3_len hib.length hic.length hxl, hTl]; rfl)) ?_
          rintro _ _ ⟨rfl, rfl⟩
          refine TL_nil ?_
          refine TX_block_normal ?_
          exact TX_cut ⟨(v, .slice ad1 v.length (cap - 1), b, c, x, 0), v, 0, rfl, rfl, hback, hav, hib, hic, hix, Nat.le_refl _, .inl ⟨rfl, by rw [← hF, strip_one (by omega)], by simp at hfuel; omega⟩, .inl rfl⟩ ⟨rfl, rfl, rfl, rfl, trivial⟩ (fun _ h => h.tail)
        ·
          refine TC_seq ?_
          refine TC_reg ?_
          refine TL_q rfl rfl (QT_eql rfl rfl rfl rfl) ?_
          refine TL_q rfl rfl (QT_assign rfl rfl rfl) ?_
          refine TL_nil ?_
          refine TX_then ?_
          refine TC_cond_dec rfl (fun h43 => ?_) (fun h43 => ?_)
          ·
            refine TC_draw [(0, 0), (1, 0), (2, 0), (3, 0), (4, 1), (5, 0), (6, 1)] YtjdaglmkljbfkaaGreatDoorF.mixed (by kernel_rfl) (St.calm _ _) ?_
            refine TV_q rfl rfl rfl (fun _ => QT_indexArr (2) rfl rfl Tryz.underlying79 YtjdaglmkljbfkaaGreatDoorF.sz_77 rfl rfl (rfl) (fun _ => by decide)) ?_
            refine TV_ql rfl rfl rfl (QT_loadRAj (out := c) (2 * 7) rfl rfl Tryz.underlying77 rfl YtjdaglmkljbfkaaGreatDoorF.sz_77 (Rd.own 1 rfl) rfl (fun _ => by rw [hTl]; decide) (fun _ => hT2)) ?_
            refine TV_ql rfl rfl rfl (QT_loadW (cs := x) 0 rfl rfl Tryz.underlying77 rfl rfl rfl hzx) ?_
            refine TV_q rfl rfl rfl (fun _ => QT_indexArr (1) rfl rfl Tryz.underlying79 YtjdaglmkljbfkaaGreatDoorF.sz_77 rfl rfl (rfl) (fun _ => by decide)) ?_
            refine TV_e0 rfl rfl rfl (rfl) (ET_store (vs := c) 1 rfl rfl rfl rfl (by rw [hic.length]; exact YtjdaglmkljbfkaaGreatDoorF.sz_77) rfl (List.all_eq_true.2 hic.oneCell) (Nat.ble_eq_true_of_le (by rw [hic.length, hTl]; decide))) ?_
            rintro _ _ ⟨rfl, rfl⟩
            refine ⟨_, .keep (by kernel_rfl) rfl (by first | exact QT_loadW (cs := x) 0 rfl rfl Tryz.underlying77 rfl rfl rfl hzx) (.drop (by kernel_rfl) (.nil)), ?_⟩
            refine TV_q rfl rfl rfl (fun _ => QT_indexArr (2) rfl rfl Tryz.underlying79 YtjdaglmkljbfkaaGreatDoorF.sz_77 rfl rfl (rfl) (fun _ => by decide)) ?_
            refine TV_e0 rfl rfl rfl (rfl) (ET_store (vs := x) 1 rfl rfl rfl rfl hzx rfl (List.all_eq_true.2 hix.oneCell) (Nat.ble_eq_true_of_le (by rw [hxl, setAt_length, hTl]; decide))) ?_
            rintro _ _ ⟨rfl, rfl⟩
            refine ⟨_, .drop (by kernel_rfl) (.nil), ?_⟩
            refine TV_end ?_
            refine TX_block_normal ?_
            exact TX_cut ⟨(v, .slice ad1 v.length (cap - 1), a, c, x, 0), v, 0, rfl, rfl, hback, hav, hia, hic, hix, Nat.le_refl _, .inl ⟨rfl, by rw [← hF, strip_two (by omega)], by simp at hfuel; omega⟩, .inl rfl⟩ ⟨rfl, rfl, rfl, rfl, trivial⟩ (fun w h => by
              rw [← set3 hia.length hib.length hic.length hxl]
              exact h.tail)
          ·
            refine TC_reg ?_
            refine TL_q rfl rfl (QT_assign rfl rfl rfl) ?_
            refine TL_nil ?_
            refine TX_block_normal ?_
            exact TX_cut ⟨(v, .slice ad1 v.length (cap - 1), a, b, c, 7), v, 7, rfl, rfl, hback, hav, hia, hib, hic, Nat.le_refl _, .inr ⟨by decide, by rw [← hF, strip_bad (by omega) (by omega) (by omega)]⟩, .inr (.inr rfl)⟩ ⟨rfl, rfl, rfl, rfl, trivial⟩ (fun _ h => h.tail)
    try clear hTl hT0 hT1 hT2 hTi hia hib hic hfin a b c
    rintro ⟨⟨rem', sv', a, b, c, e⟩, rem2, e2, h1, h2, hsl', hall', hia, hib, hic, hrl, hfin', he'⟩
    dsimp only at h1 h2 hsl' hall' hia hib hic hrl hfin' he' ⊢
    subst h1 h2
    have hBi : Ints triK (B3 a b c) := T3_ints (bareR_ints hia) (bareR_ints hib) (bareR_ints hic)
    have hTz : Sz Tryz.prog 79 (T3 a b c).length := by rw [T3_len hia.length hib.length hic.length]; exact YtjdaglmkljbfkaaGreatDoorF.sz_79
    refine TC_reg ?_
    refine TL_q rfl rfl (QT_move rfl rfl rfl) ?_
    refine TL_q rfl rfl (QT_loadW (cs := T3 a b c) 0 rfl rfl Tryz.underlying79 rfl rfl rfl hTz) ?_
    refine TL_cq rfl rfl rfl rfl YtjdaglmkljbfkaaGreatDoorF.cal_133 rfl (fun _ => bare_spec w0 _ a b c hia hib hic) ?_
    refine TL_e rfl rfl rfl (rfl) (ET_buildN [_] rfl Tryz.underlying61 YtjdaglmkljbfkaaGreatDoorF.sz_79 YtjdaglmkljbfkaaGreatDoorF.zero_79 rfl rfl rfl (fun v hv => by cases List.mem_singleton.1 hv; exact hBi.length)) ?_
    rintro _ _ ⟨b53, rfl, rfl⟩
    refine TL_e rfl rfl rfl (rfl) (ET_appendL (L := [_, _]) rfl Tryz.underlying61 el_Tri rfl rfl hfr (fun _ h => h) (SlA.own (n := 1) (xs := B3 a b c) 0 rfl (by rw [List.drop_zero, List.take_of_length_le (by simp [Value.cells]; exact Nat.le_of_eq hBi.length)]; simp [Value.cells, B3]) (by simp [Value.cells]; exact Nat.le_of_eq hBi.length.symm) (by omega)) hBi.oneCell (by simp at hfew; omega) (by simp at hfew; omega)) ?_
    rintro fv2 _ ⟨H', hF', rfl⟩
    refine TL_q rfl rfl (QT_assign rfl rfl rfl) ?_
    refine TL_nil ?_
    refine TX_scope_normal ?_
    refine TX_block_normal ?_
    exact TX_round ⟨(rem2, sv', a, b, c, out ++ [B3 a b c], fv2, H', e2, f), hsl', hall', hia, hib, hic, fun t ht => by
      rcases List.mem_append.1 ht with ht | ht
      · exact hio t ht
      · cases List.mem_singleton.1 ht
        exact hBi, by rw [List.length_append, flatten_snoc]; exact hF', by simp at hfew ⊢; omega, hfin', he'⟩ (by show rem2.length < (x :: v).length; simp; omega) ⟨rfl, rfl, rfl, rfl, trivial⟩ (fun _ h => h.tail)
  ·
    refine TC_exit ?_
    refine TX_then_exit ?_
    refine TX_then_exit ?_
    refine TX_block_here ?_
    refine TX_then ?_
    refine TC_seq ?_
    refine TC_seq ?_
    refine TC_reg ?_
    refine TL_q rfl rfl (QT_move rfl rfl rfl) ?_
    refine TL_q rfl rfl (QT_neq rfl rfl rfl rfl) ?_
    refine TL_nil ?_
    refine TX_then ?_
    refine TC_cond_dec rfl (fun h56 => ?_) (fun h56 => ?_)
    ·
      refine TC_seq ?_
      refine TC_reg ?_
      refine TL_q rfl rfl (QT_move rfl rfl rfl) ?_
      refine TL_q rfl rfl (QT_assign rfl rfl rfl) ?_
      refine TL_q rfl rfl (QT_assign rfl rfl rfl) ?_
      refine TL_nil ?_
      refine TX_then ?_
      refine TC_ret ?_
      refine TX_then_ret ?_
      have hFe : FIN = ([], e) := by
        rcases hfin with ⟨h, _⟩ | ⟨_, h⟩
        · exact absurd h h56
        · exact h
      rw [hFe]
      exact TX_ret (.inl rfl) (res2 rfl rfl rfl) ⟨_, ⟨_, [], rfl, Frag.nil _ _, rfl⟩, fun _ h => h.tail.app_right⟩
    ·
      refine TC_skip ?_
      refine TX_then ?_
      refine TC_seq ?_
      obtain rfl : e = 0 := Classical.byContradiction h56
      have hr0 : rem = [] := by
        cases rem with
        | nil => rfl
        | cons x v => simp at h12
      subst hr0
      have hFe : FIN = (out, 0) := by
        rcases hfin with ⟨_, h, hf⟩ | ⟨h, _⟩
        · obtain ⟨g, rfl⟩ : ∃ g, f = g + 1 := ⟨f - 1, by simp at hf; omega⟩
          rw [← h, stripF]
        · exact absurd rfl h
      rw [hFe]
      refine TC_A (St w0 (H ++ η)) (fun _ h => h.tail) ?_
      refine TC_reg ?_
      refine TL_q rfl rfl (QT_move rfl rfl rfl) ?_
      refine TL_e rfl rfl rfl (rfl) (ET_call rfl YtjdaglmkljbfkaaGreatDoorF.cal_134 rfl (clipT_spec w0 η H fv out.length out.flatten hfr)) ?_
      rintro cv _ ⟨hF2, rfl⟩
      refine TL_q rfl rfl (QT_assign rfl rfl rfl) ?_
      refine TL_q rfl rfl (QT_assign rfl rfl rfl) ?_
      refine TL_nil ?_
      refine TX_then ?_
      refine TC_ret ?_
      exact TX_ret (.inl rfl) (res2 rfl rfl rfl) ⟨_, ⟨cv, H, rfl, hF2, rfl⟩, fun _ h => h⟩
end Go.Proofs.YtjdaglmkljbfkaaGreatDoor
namespace Go.Proofs.YtjdaglmkljbfkaaGreatDoor
open Go Go.Gx Go.RowKit
set_option maxRecDepth 100000

def at7 (rs : List R) (i : Nat) : R := rs.getD i zR
theorem at7_some {rs : List R} {i : Nat} (h : i < rs.length) : rs[i]? = some (at7 rs i) := by
  rw [at7, List.getD_eq_getElem?_getD, List.getElem?_eq_getElem h]; rfl
theorem flat_at7 {rs : List R} {i : Nat} (ha : All7 rs) (h : i < rs.length) : (rs.flatten.drop (i * 7)).take 7 = at7 rs i ∧ i * 7 + 7 ≤ rs.flatten.length := flat_at ha.len (at7_some h)
theorem at7_ints {rs : List R} {i : Nat} (ha : All7 rs) (h : i < rs.length) : Ints recK (at7 rs i) := ha _ (List.mem_of_getElem? (at7_some h))
def cellF (rs : List R) (row i : Nat) : List R :=
  if i % row = row - 1 then [] else [B3 (at7 rs i) (at7 rs (i + 1)) (at7 rs (i + row)), B3 (at7 rs (i + 1)) (at7 rs (i + row + 1)) (at7 rs (i + row))]
def outT (rs : List R) (row n : Nat) : List R := (List.range n).flatMap (cellF rs row)
theorem outT_succ (rs : List R) (row n : Nat) : outT rs row (n + 1) = outT rs row n ++ cellF rs row n := by
  simp [outT, List.range_succ, List.flatMap_append]
theorem outT_len (rs : List R) (row : Nat) : ∀ n, (outT rs row n).length ≤ 2 * n
  | 0 => by simp [outT]
  | n + 1 => by
    have h := outT_len rs row n
    have h2 : (cellF rs row n).length ≤ 2 := by unfold cellF; split <;> simp
    rw [outT_succ, List.length_append]; omega
theorem B3_ints {a b c : R} (ha : Ints recK a) (hb : Ints recK b) (hc : Ints recK c) : Ints triK (B3 a b c) := T3_ints (bareR_ints ha) (bareR_ints hb) (bareR_ints hc)
def rowsF (rs : List R) (row : Nat) : List R × Int := if rs.length % row = 0 ∧ 2 ≤ rs.length / row then (outT rs row (rs.length - row), 0) else ([], 5)
theorem icast_mod (a b : Nat) : (a : Int) % (b : Int) = ((a % b : Nat) : Int) := rfl
theorem icast_div (a b : Nat) : (a : Int) / (b : Int) = ((a / b : Nat) : Int) := rfl
theorem icast_mul (a b : Nat) : (a : Int) * (b : Int) = ((a * b : Nat) : Int) := rfl
theorem i64_mul {a b : Nat} (h : a * b ≤ 9223372036854775807) : -9223372036854775808 ≤ (a : Int) * (b : Int) ∧ (a : Int) * (b : Int) ≤ 9223372036854775807 := by
  rw [icast_mul]; omega
theorem two_rows {n row : Nat} (h0 : n % row = 0) (h2 : 2 ≤ n / row) : 2 * row ≤ n ∧ n / row * row = n := by
  have h := Nat.div_mul_cancel (Nat.dvd_of_mod_eq_zero h0)
  refine ⟨?_, h⟩
  calc 2 * row ≤ n / row * row := Nat.mul_le_mul_right _ h2
    _ = n := h

theorem two_own {a b : R} (ha : a.length = 21) (hb : b.length = 21) : ((([Value.agg a.toArray, Value.agg b.toArray].map fun v => v.cells.toList).flatten.drop 0).take (2 * 21)) = a ++ b := by
  rw [List.drop_zero, List.take_of_length_le (by simp [Value.cells, ha, hb])]
  simp [Value.cells]

theorem two_len {a b : R} (ha : a.length = 21) (hb : b.length = 21) : 0 + 2 * 21 ≤ ([Value.agg a.toArray, Value.agg b.toArray].map fun v => v.cells.toList).flatten.length := by
  simp [Value.cells, ha, hb]
theorem one_own {a : R} (ha : a.length = 21) : ((([Value.agg a.toArray].map fun v => v.cells.toList).flatten.drop 0).take (1 * 21)) = a := by
  rw [List.drop_zero, List.take_of_length_le (by simp [Value.cells, ha])]
  simp [Value.cells]
theorem one_len {a : R} (ha : a.length = 21) : 0 + 1 * 21 ≤ ([Value.agg a.toArray].map fun v => v.cells.toList).flatten.length := by
  simp [Value.cells, ha]

set_option maxHeartbeats 1000000 in
theorem rows_spec (w0 : Base) (η : Heap) (sv : Value) (rs : List R) (row : Nat) (hs : SlA (St w0 η) sv 7 rs.length rs.flatten) (ha : All7 rs) (hrow : 1 ≤ row) (hn : rs.length * 120 ≤ 140737488355328) :
    CallsT Tryz.prog 119 [sv, .int .i64 (row : Int)] (St w0 η) fun v A' => ∃ pv H, v = .tuple #[pv, .int .i64 (rowsF rs row).2] ∧ Frag 79 21 pv (rowsF rs row).1.length (rowsF rs row).1.flatten H ∧ A' = St w0 (H ++ η) := by
  obtain ⟨_, ad, cap, sb, so, rfl, hcap, had, hrd⟩ := hs.some
  refine CallsT.body Tryz.func119 rfl rfl ?_
  simp only [Tryz.ntmps119, slotsOf, Nat.reduceAdd]
  refine TC_seq ?_
  refine TC_reg ?_
  refine TL_q rfl rfl (QT_assign rfl rfl rfl) ?_
  refine TL_q rfl rfl (QT_assign rfl rfl rfl) ?_
  refine TL_nil ?_
  refine TX_then ?_
  refine TC_scope ?_
  refine TC_seq ?_
  refine TC_seq ?_
  refine TC_reg ?_
  refine TL_q rfl rfl (QT_move rfl rfl rfl) ?_
  refine TL_q rfl rfl (QT_len rfl rfl Tryz.underlying31 rfl) ?_
  refine TL_q rfl rfl (QT_move rfl rfl rfl) ?_
  refine TL_q rfl rfl (QT_rem rfl rfl rfl rfl (fun _ => ⟨by omega, by omega⟩)) ?_
  refine TL_q rfl rfl (QT_neq rfl rfl rfl rfl) ?_
  refine TL_q rfl rfl (QT_move rfl rfl rfl) ?_
  refine TL_q rfl rfl (QT_move rfl rfl rfl) ?_
  refine TL_q rfl rfl (QT_len rfl rfl Tryz.underlying31 rfl) ?_
  refine TL_q rfl rfl (QT_move rfl rfl rfl) ?_
  refine TL_q rfl rfl (QT_quo rfl rfl rfl rfl (fun _ => ⟨by omega, by omega, by omega⟩)) ?_
  refine TL_q rfl rfl (QT_lss rfl rfl rfl rfl) ?_
  refine TL_q rfl rfl (QT_or rfl rfl rfl rfl) ?_
  refine TL_nil ?_
  refine TX_then ?_
  refine TC_cond rfl (fun h23 => ?_) (fun h23 => ?_)
  ·
    refine TC_seq ?_
    refine TC_reg ?_
    refine TL_q rfl rfl (QT_assign rfl rfl rfl) ?_
    refine TL_q rfl rfl (QT_assign rfl rfl rfl) ?_
    refine TL_nil ?_
    refine TX_then ?_
    refine TC_ret ?_
    refine TX_then_ret ?_
    refine TX_scope_ret ?_
    have he : rowsF rs row = ([], 5) := by
      rw [rowsF, if_neg]
      rw [icast_mod, icast_div] at h23
      simp only [Bool.or_eq_true, decide_eq_true_eq] at h23
      omega
    rw [he]
    exact TX_ret (.inl rfl) (res2 rfl rfl rfl) ⟨_, ⟨_, [], rfl, Frag.nil _ _, rfl⟩, (fun _ h => by first | exact h | exact h.tail | exact h.tail.tail | exact h.tail.tail.tail | exact h.tail.tail.tail.tail | exact h.tail.tail.tail.tail.tail | exact h.tail.tail.tail.tail.tail.tail | exact h.tail.tail.tail.tail.tail.tail.tail | exact h.tail.tail.tail.tail.tail.tail.tail.tail | exact h.tail.tail.tail.tail.tail.tail.tail.tail.tail | exact h.tail.tail.tail.tail.tail.tail.tail.tail.tail.tail | exact h.tail.tail.tail.tail.tail.tail.tail.tail.tail.tail.tail | exact h.tail.tail.tail.tail.tail.tail.tail.tail.tail.tail.tail.tail | exact h.tail.tail.tail.tail.tail.tail.tail.tail.tail.tail.tail.tail.tail)⟩
  ·
    refine TC_skip ?_
    refine TX_then ?_
    refine TC_seq ?_
    rw [icast_mod, icast_div] at h23
    simp only [Bool.or_eq_false_iff, decide_eq_false_iff_not, ne_eq, Classical.not_not] at h23
    have hm0 : rs.length % row = 0 := by omega
    have hm2 : 2 ≤ rs.length / row := by omega
    obtain ⟨h2r, _⟩ := two_rows hm0 hm2
    have he : rowsF rs row = (outT rs row (rs.length - row), 0) := by rw [rowsF, if_pos ⟨hm0, hm2⟩]
    rw [he]
    clear he h23
    refine TC_reg ?_
    refine TL_q rfl rfl (QT_assign rfl rfl rfl) ?_
    refine TL_nil ?_
    refine TX_then ?_
    refine TC_seq ?_
    refine TC_label ?_
    refine TX_then ?_
    refine TC_seq ?_
    refine TC_seq ?_
    refine TC_reg ?_
    refine TL_q rfl rfl (QT_move rfl rfl rfl) ?_
    refine TL_q rfl rfl (QT_len rfl rfl Tryz.underlying31 rfl) ?_
    refine TL_q rfl rfl (QT_move rfl rfl rfl) ?_
    refine TL_q rfl rfl (QT_sub rfl rfl rfl rfl (fun _ => ⟨by omega, by omega⟩)) ?_
    refine TL_q rfl rfl (QT_move rfl rfl rfl) ?_
    refine TL_nil ?_
    refine TX_then ?_
    refine TC_block ?_
    refine TC_loop (γ := { t : Nat × Value × Heap // t.1 ≤ rs.length - row ∧ Frag 79 21 t.2.1 (outT rs row t.1).length (outT rs row t.1).flatten t.2.2 }) (fun t => [(0, true, .slice ad rs.length cap), (1, true, .int .i64 (row : Int)), (6, true, t.1.2.1), (27, true, .int .i64 ((rs.length : Int) - (row : Int))), (28, true, .int .i64 (t.1.1 : Int))]) (fun t => St w0 (t.1.2.2 ++ η)) (fun t => rs.length - row - t.1.1) ⟨(0, .slice none 0 0, []), Nat.zero_le _, Frag.nil _ _⟩ ⟨rfl, rfl, rfl, rfl, rfl, trivial⟩ (fun _ h => h) ?_
    rintro ⟨⟨i, fv, H⟩, hi, hfr⟩
    dsimp only at hi hfr ⊢
    refine TC_seq ?_
    refine TC_reg ?_
    refine TL_q rfl rfl (QT_lss rfl rfl rfl rfl) ?_
    refine TL_nil ?_
    refine TX_then ?_
    refine TC_seq ?_
    refine TC_cond_dec rfl (fun h29 => ?_) (fun h29 => ?_)
    ·
      refine TC_skip ?_
      refine TX_then ?_
      refine TC_cut (γ := { t : Value × Heap // Frag 79 21 t.1 (outT rs row (i + 1)).length (outT rs row (i + 1)).flatten t.2 }) (fun t => [(0, true, .slice ad rs.length cap), (1, true, .int .i64 (row : Int)), (6, true, t.1.1), (27, true, .int .i64 ((rs.length : Int) - (row : Int))), (28, true, .int .i64 (i : Int))]) (fun t => St w0 (t.1.2 ++ η)) ?_ ?_
      ·
        refine TC_block ?_
        refine TC_seq ?_
        refine TC_reg ?_
        refine TL_q rfl rfl (QT_move rfl rfl rfl) ?_
        refine TL_q rfl rfl (QT_assign rfl rfl rfl) ?_
        refine TL_nil ?_
        refine TX_then ?_
        refine TC_seq ?_
        refine TC_seq ?_
        refine TC_reg ?_
        refine TL_q rfl rfl (QT_move rfl rfl rfl) ?_
        refine TL_q rfl rfl (QT_move rfl rfl rfl) ?_
        refine TL_q rfl rfl (QT_rem rfl rfl rfl rfl (fun _ => ⟨by omega, by omega⟩)) ?_
        refine TL_q rfl rfl (QT_move rfl rfl rfl) ?_
        refine TL_q rfl rfl (QT_sub rfl rfl rfl rfl (fun _ => ⟨by omega, by omega⟩)) ?_
        refine TL_q rfl rfl (QT_eql rfl rfl rfl rfl) ?_
        refine TL_nil ?_
        refine TX_then ?_
        refine TC_cond_dec rfl (fun h36 => ?_) (fun h36 => ?_)
        ·
          have hc : cellF rs row i = [] := by
            rw [cellF, if_pos]
            rw [icast_mod] at h36
            omega
          refine TC_exit ?_
          refine TX_then_exit ?_
          refine TX_block_here ?_
          exact TX_cut ⟨(fv, H), by rw [outT_succ, hc, List.append_nil]; exact hfr⟩ ⟨rfl, rfl, rfl, rfl, rfl, trivial⟩ (fun _ h => h)
        ·
          have hc : cellF rs row i = [B3 (at7 rs i) (at7 rs (i + 1)) (at7 rs (i + row)), B3 (at7 rs (i + 1)) (at7 rs (i + row + 1)) (at7 rs (i + row))] := by
            rw [cellF, if_neg]
            rw [icast_mod] at h36
            omega
          have hi1 : i < rs.length := by omega
          have hi2 : i + 1 < rs.length := by omega
          have hi3 : i + row < rs.length := by omega
          have hi4 : i + row + 1 < rs.length := by
            refine Nat.lt_of_le_of_ne (by omega) fun e => h36 ?_
            rw [icast_mod]
            have e1 : i = rs.length - row - 1 := by omega
            have e2 : (rs.length - row - 1) % row = row - 1 := by
              obtain ⟨q, hq⟩ := Nat.dvd_of_mod_eq_zero hm0
              obtain ⟨q', rfl⟩ : ∃ q', q = q' + 2 := ⟨q - 2, by
                have := h2r
                rw [hq, Nat.mul_comm 2 row] at this
                have := Nat.le_of_mul_le_mul_left this (by omega)
                omega⟩
              rw [hq, Nat.mul_add, show row * q' + row * 2 - row - 1 = row - 1 + row * q' by omega, Nat.add_mul_mod_self_left, Nat.mod_eq_of_lt (by omega)]
            rw [e1, e2]; omega
          obtain ⟨f1, g1⟩ := flat_at7 ha hi1
          obtain ⟨f2, g2⟩ := flat_at7 ha hi2
          obtain ⟨f3, g3⟩ := flat_at7 ha hi3
          obtain ⟨f4, g4⟩ := flat_at7 ha hi4
          have j1 := at7_ints ha hi1
          have j2 := at7_ints ha hi2
          have j3 := at7_ints ha hi3
          have j4 := at7_ints ha hi4
          have hl := outT_len rs row i
          have z7 : ∀ {x : R}, Ints recK x → Sz Tryz.prog 77 x.length := fun h => by rw [h.length]; exact YtjdaglmkljbfkaaGreatDoorF.sz_77
          generalize at7 rs i = xa at *
          generalize at7 rs (i + 1) = xb at *
          generalize at7 rs (i + row) = xc at *
          generalize at7 rs (i + row + 1) = xd at *
          have b1 : (B3 xa xb xc).length = 21 := (B3_ints j1 j2 j3).length
          have b2 : (B3 xb xd xc).length = 21 := (B3_ints j2 j4 j3).length
          refine TC_skip ?_
          refine TX_then ?_
          refine TC_seq ?_
          refine TC_draw [(0, 0), (1, 0), (2, 0), (3, 0), (4, 0), (5, 0), (6, 0), (7, 0), (8, 0), (9, 0), (10, 0), (11, 0), (12, 0), (13, 0), (14, 0), (15, 0), (16, 0), (17, 0), (18, 0), (19, 0), (20, 0), (21, 0), (22, 2), (23, 2), (24, 2), (25, 2), (26, 1), (27, 1), (28, 1), (29, 1)] YtjdaglmkljbfkaaGreatDoorF.mixed (by kernel_rfl) (St.calm _ _) ?_
          refine TV_q rfl rfl rfl (fun _ => QT_move rfl rfl rfl) ?_
          refine TV_q rfl rfl rfl (fun _ => QT_move rfl rfl rfl) ?_
          refine TV_q rfl rfl rfl (fun _ => QT_indexG i rfl rfl Tryz.underlying31 YtjdaglmkljbfkaaGreatDoorF.sz_77 rfl rfl rfl (fun _ => hi1) (fun _ => had (by omega))) ?_
          refine TV_ql rfl rfl rfl (QT_loadRAj (out := xa) (i * 7) rfl rfl Tryz.underlying77 rfl YtjdaglmkljbfkaaGreatDoorF.sz_77 (hrd.deep (by intro _ hw; first | exact hw | exact hw.app_right | exact hw.app_right.app_right | exact hw.tail | exact hw.tail.app_right | exact hw.tail.tail | exact hw.tail.tail.app_right | exact hw.tail.tail.tail | exact hw.tail.tail.tail.app_right | exact hw.tail.tail.tail.tail | exact hw.tail.tail.tail.tail.app_right | exact hw.tail.tail.tail.tail.tail | exact hw.tail.tail.tail.tail.tail.app_right | exact hw.tail.tail.tail.tail.tail.tail | exact hw.tail.tail.tail.tail.tail.tail.app_right)) rfl (fun _ => g1) (fun _ => f1)) ?_
          refine TV_q rfl rfl rfl (fun _ => QT_move rfl rfl rfl) ?_
          refine TV_q rfl rfl rfl (fun _ => QT_move rfl rfl rfl) ?_
          refine TV_q rfl rfl rfl (fun _ => QT_add rfl rfl rfl rfl (fun _ => ⟨by omega, by omega⟩)) ?_
          refine TV_q rfl rfl rfl (fun _ => QT_indexG (i + 1) rfl rfl Tryz.underlying31 YtjdaglmkljbfkaaGreatDoorF.sz_77 rfl rfl rfl (fun _ => hi2) (fun _ => had (by omega))) ?_
          refine TV_ql rfl rfl rfl (QT_loadRAj (out := xb) ((i + 1) * 7) rfl rfl Tryz.underlying77 rfl YtjdaglmkljbfkaaGreatDoorF.sz_77 (hrd.deep (by intro _ hw; first | exact hw | exact hw.app_right | exact hw.app_right.app_right | exact hw.tail | exact hw.tail.app_right | exact hw.tail.tail | exact hw.tail.tail.app_right | exact hw.tail.tail.tail | exact hw.tail.tail.tail.app_right | exact hw.tail.tail.tail.tail | exact hw.tail.tail.tail.tail.app_right | exact hw.tail.tail.tail.tail.tail | exact hw.tail.tail.tail.tail.tail.app_right | exact hw.tail.tail.tail.tail.tail.tail | exact hw.tail.tail.tail.tail.tail.tail.app_right)) rfl (fun _ => g2) (fun _ => f2)) ?_
          refine TV_q rfl rfl rfl (fun _ => QT_move rfl rfl rfl) ?_
          refine TV_q rfl rfl rfl (fun _ => QT_move rfl rfl rfl) ?_
          refine TV_q rfl rfl rfl (fun _ => QT_move rfl rfl rfl) ?_
          refine TV_q rfl rfl rfl (fun _ => QT_add rfl rfl rfl rfl (fun _ => ⟨by omega, by omega⟩)) ?_
          refine TV_q rfl rfl rfl (fun _ => QT_indexG (i + row) rfl rfl Tryz.underlying31 YtjdaglmkljbfkaaGreatDoorF.sz_77 rfl rfl rfl (fun _ => hi3) (fun _ => had (by omega))) ?_
          refine TV_ql rfl rfl rfl (QT_loadRAj (out := xc) ((i + row) * 7) rfl rfl Tryz.underlying77 rfl YtjdaglmkljbfkaaGreatDoorF.sz_77 (hrd.deep (by intro _ hw; first | exact hw | exact hw.app_right | exact hw.app_right.app_right | exact hw.tail | exact hw.tail.app_right | exact hw.tail.tail | exact hw.tail.tail.app_right | exact hw.tail.tail.tail | exact hw.tail.tail.tail.app_right | exact hw.tail.tail.tail.tail | exact hw.tail.tail.tail.tail.app_right | exact hw.tail.tail.tail.tail.tail | exact hw.tail.tail.tail.tail.tail.app_right | exact hw.tail.tail.tail.tail.tail.tail | exact hw.tail.tail.tail.tail.tail.tail.app_right)) rfl (fun _ => g3) (fun _ => f3)) ?_
          refine TV_q rfl rfl rfl (fun _ => QT_move rfl rfl rfl) ?_
          refine TV_q rfl rfl rfl (fun _ => QT_move rfl rfl rfl) ?_
          refine TV_q rfl rfl rfl (fun _ => QT_move rfl rfl rfl) ?_
          refine TV_q rfl rfl rfl (fun _ => QT_add rfl rfl rfl rfl (fun _ => ⟨by omega, by omega⟩)) ?_
          refine TV_q rfl rfl rfl (fun _ => QT_add rfl rfl rfl rfl (fun _ => ⟨by omega, by omega⟩)) ?_
          refine TV_q rfl rfl rfl (fun _ => QT_indexG (i + row + 1) rfl rfl Tryz.underlying31 YtjdaglmkljbfkaaGreatDoorF.sz_77 rfl rfl rfl (fun _ => hi4) (fun _ => had (by omega))) ?_
          refine TV_ql rfl rfl rfl (QT_loadRAj (out := xd) ((i + row + 1) * 7) rfl rfl Tryz.underlying77 rfl YtjdaglmkljbfkaaGreatDoorF.sz_77 (hrd.deep (by intro _ hw; first | exact hw | exact hw.app_right | exact hw.app_right.app_right | exact hw.tail | exact hw.tail.app_right | exact hw.tail.tail | exact hw.tail.tail.app_right | exact hw.tail.tail.tail | exact hw.tail.tail.tail.app_right | exact hw.tail.tail.tail.tail | exact hw.tail.tail.tail.tail.app_right | exact hw.tail.tail.tail.tail.tail | exact hw.tail.tail.tail.tail.tail.app_right | exact hw.tail.tail.tail.tail.tail.tail | exact hw.tail.tail.tail.tail.tail.tail.app_right)) rfl (fun _ => g4) (fun _ => f4)) ?_
          refine TV_allocs [⟨22, 8, 77, zv recK⟩, ⟨23, 9, 77, zv recK⟩, ⟨24, 10, 77, zv recK⟩, ⟨25, 11, 77, zv recK⟩] [(26, 1), (27, 1), (28, 1), (29, 1)] (by kernel_rfl) (by decide) ?_ ?_ ?_ ?_
          · intro x hx
            simp only [List.mem_cons, List.not_mem_nil, or_false] at hx
            rcases hx with rfl | rfl | rfl | rfl <;> exact ⟨_, rfl, rfl, rfl, rfl, YtjdaglmkljbfkaaGreatDoorF.zero_77, rfl⟩
          · intro x hx
            simp only [List.mem_cons, List.not_mem_nil, or_false] at hx
            rcases hx with rfl | rfl | rfl | rfl <;> rfl
          · intro x hx X
            simp only [List.mem_cons, List.not_mem_nil, or_false] at hx
            rcases hx with rfl | rfl | rfl | rfl <;> exact .keep (by kernel_rfl) rfl (by first | exact QT_loadRAj (out := xd) ((i + row + 1) * 7) rfl rfl Tryz.underlying77 rfl YtjdaglmkljbfkaaGreatDoorF.sz_77 (hrd.deep (by intro _ hw; first | exact hw | exact hw.app_right | exact hw.app_right.app_right | exact hw.tail | exact hw.tail.app_right | exact hw.tail.tail | exact hw.tail.tail.app_right | exact hw.tail.tail.tail | exact hw.tail.tail.tail.app_right | exact hw.tail.tail.tail.tail | exact hw.tail.tail.tail.tail.app_right | exact hw.tail.tail.tail.tail.tail | exact hw.tail.tail.tail.tail.tail.app_right | exact hw.tail.tail.tail.tail.tail.tail | exact hw.tail.tail.tail.tail.tail.tail.app_right)) rfl (fun _ => g4) (fun _ => f4)) (.keep (by kernel_rfl) rfl (by first | exact QT_loadRAj (out := xc) ((i + row) * 7) rfl rfl Tryz.underlying77 rfl YtjdaglmkljbfkaaGreatDoorF.sz_77 (hrd.deep (by intro _ hw; first | exact hw | exact hw.app_right | exact hw.app_right.app_right | exact hw.tail | exact hw.tail.app_right | exact hw.tail.tail | exact hw.tail.tail.app_right | exact hw.tail.tail.tail | exact hw.tail.tail.tail.app_right | exact hw.tail.tail.tail.tail | exact hw.tail.tail.tail.tail.app_right | exact hw.tail.tail.tail.tail.tail | exact hw.tail.tail.tail.tail.tail.app_right | exact hw.tail.tail.tail.tail.tail.tail | exact hw.tail.tail.tail.tail.tail.tail.app_right)) rfl (fun _ => g3) (fun _ => f3)) (.keep (by kernel_rfl) rfl (by first | exact QT_loadRAj (out := xb) ((i + 1) * 7) rfl rfl Tryz.underlying77 rfl YtjdaglmkljbfkaaGreatDoorF.sz_77 (hrd.deep (by intro _ hw; first | exact hw | exact hw.app_right | exact hw.app_right.app_right | exact hw.tail | exact hw.tail.app_right | exact hw.tail.tail | exact hw.tail.tail.app_right | exact hw.tail.tail.tail | exact hw.tail.tail.tail.app_right | exact hw.tail.tail.tail.tail | exact hw.tail.tail.tail.tail.app_right | exact hw.tail.tail.tail.tail.tail | exact hw.tail.tail.tail.tail.tail.app_right | exact hw.tail.tail.tail.tail.tail.tail | exact hw.tail.tail.tail.tail.tail.tail.app_right)) rfl (fun _ => g2) (fun _ => f2)) (.keep (by kernel_rfl) rfl (by first | exact QT_loadRAj (out := xa) (i * 7) rfl rfl Tryz.underlying77 rfl YtjdaglmkljbfkaaGreatDoorF.sz_77 (hrd.deep (by intro _ hw; first | exact hw | exact hw.app_right | exact hw.app_right.app_right | exact hw.tail | exact hw.tail.app_right | exact hw.tail.tail | exact hw.tail.tail.app_right | exact hw.tail.tail.tail | exact hw.tail.tail.tail.app_right | exact hw.tail.tail.tail.tail | exact hw.tail.tail.tail.tail.app_right | exact hw.tail.tail.tail.tail.tail | exact hw.tail.tail.tail.tail.tail.app_right | exact hw.tail.tail.tail.tail.tail.tail | exact hw.tail.tail.tail.tail.tail.tail.app_right)) rfl (fun _ => g1) (fun _ => f1)) (.nil))))
          intro β
          simp only [List.map_cons, List.map_nil, slotA, blkA, List.cons_append, List.nil_append]
          generalize β 8 = b8
          generalize β 9 = b9
          generalize β 10 = b10
          generalize β 11 = b11
          refine TV_e0 rfl rfl rfl (rfl) (ET_storeW (vs := xa) 0 rfl rfl rfl (z7 j1) rfl (List.all_eq_true.2 j1.oneCell) (by rw [j1.length]; rfl)) ?_
          rintro _ _ ⟨rfl, rfl⟩
          refine ⟨_, .keep (by kernel_rfl) rfl (by first | exact QT_loadRAj (out := xd) ((i + row + 1) * 7) rfl rfl Tryz.underlying77 rfl YtjdaglmkljbfkaaGreatDoorF.sz_77 (hrd.deep (by intro _ hw; first | exact hw | exact hw.app_right | exact hw.app_right.app_right | exact hw.tail | exact hw.tail.app_right | exact hw.tail.tail | exact hw.tail.tail.app_right | exact hw.tail.tail.tail | exact hw.tail.tail.tail.app_right | exact hw.tail.tail.tail.tail | exact hw.tail.tail.tail.tail.app_right | exact hw.tail.tail.tail.tail.tail | exact hw.tail.tail.tail.tail.tail.app_right | exact hw.tail.tail.tail.tail.tail.tail | exact hw.tail.tail.tail.tail.tail.tail.app_right)) rfl (fun _ => g4) (fun _ => f4)) (.keep (by kernel_rfl) rfl (by first | exact QT_loadRAj (out := xc) ((i + row) * 7) rfl rfl Tryz.underlying77 rfl YtjdaglmkljbfkaaGreatDoorF.sz_77 (hrd.deep (by intro _ hw; first | exact hw | exact hw.app_right | exact hw.app_right.app_right | exact hw.tail | exact hw.tail.app_right | exact hw.tail.tail | exact hw.tail.tail.app_right | exact hw.tail.tail.tail | exact hw.tail.tail.tail.app_right | exact hw.tail.tail.tail.tail | exact hw.tail.tail.tail.tail.app_right | exact hw.tail.tail.tail.tail.tail | exact hw.tail.tail.tail.tail.tail.app_right | exact hw.tail.tail.tail.tail.tail.tail | exact hw.tail.tail.tail.tail.tail.tail.app_right)) rfl (fun _ => g3) (fun _ => f3)) (.keep (by kernel_rfl) rfl (by first | exact QT_loadRAj (out := xb) ((i + 1) * 7) rfl rfl Tryz.underlying77 rfl YtjdaglmkljbfkaaGreatDoorF.sz_77 (hrd.deep (by intro _ hw; first | exact hw | exact hw.app_right | exact hw.app_right.app_right | exact hw.tail | exact hw.tail.app_right | exact hw.tail.tail | exact hw.tail.tail.app_right | exact hw.tail.tail.tail | exact hw.tail.tail.tail.app_right | exact hw.tail.tail.tail.tail | exact hw.tail.tail.tail.tail.app_right | exact hw.tail.tail.tail.tail.tail | exact hw.tail.tail.tail.tail.tail.app_right | exact hw.tail.tail.tail.tail.tail.tail | exact hw.tail.tail.tail.tail.tail.tail.app_right)) rfl (fun _ => g2) (fun _ => f2)) (.drop (by kernel_rfl) (.nil)))), ?_⟩
          refine TV_e0 rfl rfl rfl (rfl) (ET_storeW (vs := xb) 1 rfl rfl rfl (z7 j2) rfl (List.all_eq_true.2 j2.oneCell) (by rw [j2.length]; rfl)) ?_
          rintro _ _ ⟨rfl, rfl⟩
          refine ⟨_, .keep (by kernel_rfl) rfl (by first | exact QT_loadRAj (out := xd) ((i + row + 1) * 7) rfl rfl Tryz.underlying77 rfl YtjdaglmkljbfkaaGreatDoorF.sz_77 (hrd.deep (by intro _ hw; first | exact hw | exact hw.app_right | exact hw.app_right.app_right | exact hw.tail | exact hw.tail.app_right | exact hw.tail.tail | exact hw.tail.tail.app_right | exact hw.tail.tail.tail | exact hw.tail.tail.tail.app_right | exact hw.tail.tail.tail.tail | exact hw.tail.tail.tail.tail.app_right | exact hw.tail.tail.tail.tail.tail | exact hw.tail.tail.tail.tail.tail.app_right | exact hw.tail.tail.tail.tail.tail.tail | exact hw.tail.tail.tail.tail.tail.tail.app_right)) rfl (fun _ => g4) (fun _ => f4)) (.keep (by kernel_rfl) rfl (by first | exact QT_loadRAj (out := xc) ((i + row) * 7) rfl rfl Tryz.underlying77 rfl YtjdaglmkljbfkaaGreatDoorF.sz_77 (hrd.deep (by intro _ hw; first | exact hw | exact hw.app_right | exact hw.app_right.app_right | exact hw.tail | exact hw.tail.app_right | exact hw.tail.tail | exact hw.tail.tail.app_right | exact hw.tail.tail.tail | exact hw.tail.tail.tail.app_right | exact hw.tail.tail.tail.tail | exact hw.tail.tail.tail.tail.app_right | exact hw.tail.tail.tail.tail.tail | exact hw.tail.tail.tail.tail.tail.app_right | exact hw.tail.tail.tail.tail.tail.tail | exact hw.tail.tail.tail.tail.tail.tail.app_right)) rfl (fun _ => g3) (fun _ => f3)) (.drop (by kernel_rfl) (.nil))), ?_⟩
          refine TV_e0 rfl rfl rfl (rfl) (ET_storeW (vs := xc) 2 rfl rfl rfl (z7 j3) rfl (List.all_eq_true.2 j3.oneCell) (by rw [j3.length]; rfl)) ?_
          rintro _ _ ⟨rfl, rfl⟩
          refine ⟨_, .keep (by kernel_rfl) rfl (by first | exact QT_loadRAj (out := xd) ((i + row + 1) * 7) rfl rfl Tryz.underlying77 rfl YtjdaglmkljbfkaaGreatDoorF.sz_77 (hrd.deep (by intro _ hw; first | exact hw | exact hw.app_right | exact hw.app_right.app_right | exact hw.tail | exact hw.tail.app_right | exact hw.tail.tail | exact hw.tail.tail.app_right | exact hw.tail.tail.tail | exact hw.tail.tail.tail.app_right | exact hw.tail.tail.tail.tail | exact hw.tail.tail.tail.tail.app_right | exact hw.tail.tail.tail.tail.tail | exact hw.tail.tail.tail.tail.tail.app_right | exact hw.tail.tail.tail.tail.tail.tail | exact hw.tail.tail.tail.tail.tail.tail.app_right)) rfl (fun _ => g4) (fun _ => f4)) (.drop (by kernel_rfl) (.nil)), ?_⟩
          refine TV_e0 rfl rfl rfl (rfl) (ET_storeW (vs := xd) 3 rfl rfl rfl (z7 j4) rfl (List.all_eq_true.2 j4.oneCell) (by rw [j4.length]; rfl)) ?_
          rintro _ _ ⟨rfl, rfl⟩
          refine ⟨_, .drop (by kernel_rfl) (.nil), ?_⟩
          refine TV_end ?_
          refine TX_then ?_
          refine TC_draw [(0, 0), (1, 0), (2, 0), (3, 0), (4, 0), (6, 0), (7, 0), (8, 0), (9, 0), (5, 1), (10, 1), (11, 1), (12, 1), (13, 0)] YtjdaglmkljbfkaaGreatDoorF.mixed (by kernel_rfl) (St.calm _ _) ?_
          refine TV_q rfl rfl rfl (fun _ => QT_move rfl rfl rfl) ?_
          refine TV_ql rfl rfl rfl (QT_loadW (cs := xa) 0 rfl rfl Tryz.underlying77 rfl rfl rfl (z7 j1)) ?_
          refine TV_ql rfl rfl rfl (QT_loadW (cs := xb) 1 rfl rfl Tryz.underlying77 rfl rfl rfl (z7 j2)) ?_
          refine TV_ql rfl rfl rfl (QT_loadW (cs := xc) 2 rfl rfl Tryz.underlying77 rfl rfl rfl (z7 j3)) ?_
          refine TV_q rfl rfl rfl (fun _ => QT_buildArr (out := T3 xa xb xc) rfl rfl YtjdaglmkljbfkaaGreatDoorF.zero_79 Tryz.underlying79 YtjdaglmkljbfkaaGreatDoorF.sz_77 rfl rfl (seg3 j1.length j2.length j3.length rfl)) ?_
          refine TV_ql rfl rfl rfl (QT_loadW (cs := xb) 1 rfl rfl Tryz.underlying77 rfl rfl rfl (z7 j2)) ?_
          refine TV_ql rfl rfl rfl (QT_loadW (cs := xd) 3 rfl rfl Tryz.underlying77 rfl rfl rfl (z7 j4)) ?_
          refine TV_ql rfl rfl rfl (QT_loadW (cs := xc) 2 rfl rfl Tryz.underlying77 rfl rfl rfl (z7 j3)) ?_
          refine TV_q rfl rfl rfl (fun _ => QT_buildArr (out := T3 xb xd xc) rfl rfl YtjdaglmkljbfkaaGreatDoorF.zero_79 Tryz.underlying79 YtjdaglmkljbfkaaGreatDoorF.sz_77 rfl rfl (seg3 j2.length j4.length j3.length rfl)) ?_
          refine TV_cq rfl rfl rfl rfl rfl YtjdaglmkljbfkaaGreatDoorF.cal_133 rfl (fun _ => bare_spec w0 _ xa xb xc j1 j2 j3) (.keep (by kernel_rfl) rfl (by first | exact QT_loadW (cs := xc) 2 rfl rfl Tryz.underlying77 rfl rfl rfl (z7 j3) | exact QT_loadW (cs := xc) 3 rfl rfl Tryz.underlying77 rfl rfl rfl (z7 j3)) (.keep (by kernel_rfl) rfl (by first | exact QT_loadW (cs := xd) 3 rfl rfl Tryz.underlying77 rfl rfl rfl (z7 j4) | exact QT_loadW (cs := xd) 4 rfl rfl Tryz.underlying77 rfl rfl rfl (z7 j4)) (.keep (by kernel_rfl) rfl (by first | exact QT_loadW (cs := xb) 1 rfl rfl Tryz.underlying77 rfl rfl rfl (z7 j2) | exact QT_loadW (cs := xb) 2 rfl rfl Tryz.underlying77 rfl rfl rfl (z7 j2)) (.keep (by kernel_rfl) rfl (by first | exact QT_loadW (cs := xc) 2 rfl rfl Tryz.underlying77 rfl rfl rfl (z7 j3) | exact QT_loadW (cs := xc) 3 rfl rfl Tryz.underlying77 rfl rfl rfl (z7 j3)) (.keep (by kernel_rfl) rfl (by first | exact QT_loadW (cs := xb) 1 rfl rfl Tryz.underlying77 rfl rfl rfl (z7 j2) | exact QT_loadW (cs := xb) 2 rfl rfl Tryz.underlying77 rfl rfl rfl (z7 j2)) (.keep (by kernel_rfl) rfl (by first | exact QT_loadW (cs := xa) 0 rfl rfl Tryz.underlying77 rfl rfl rfl (z7 j1) | exact QT_loadW (cs := xa) 1 rfl rfl Tryz.underlying77 rfl rfl rfl (z7 j1)) (.nil))))))) ?_
          refine TV_cq rfl rfl rfl rfl rfl YtjdaglmkljbfkaaGreatDoorF.cal_133 rfl (fun _ => bare_spec w0 _ xb xd xc j2 j4 j3) (.keep (by kernel_rfl) rfl (by first | exact QT_loadW (cs := xc) 2 rfl rfl Tryz.underlying77 rfl rfl rfl (z7 j3) | exact QT_loadW (cs := xc) 3 rfl rfl Tryz.underlying77 rfl rfl rfl (z7 j3)) (.keep (by kernel_rfl) rfl (by first | exact QT_loadW (cs := xd) 3 rfl rfl Tryz.underlying77 rfl rfl rfl (z7 j4) | exact QT_loadW (cs := xd) 4 rfl rfl Tryz.underlying77 rfl rfl rfl (z7 j4)) (.keep (by kernel_rfl) rfl (by first | exact QT_loadW (cs := xb) 1 rfl rfl Tryz.underlying77 rfl rfl rfl (z7 j2) | exact QT_loadW (cs := xb) 2 rfl rfl Tryz.underlying77 rfl rfl rfl (z7 j2)) (.keep (by kernel_rfl) rfl (by first | exact QT_loadW (cs := xc) 2 rfl rfl Tryz.underlying77 rfl rfl rfl (z7 j3) | exact QT_loadW (cs := xc) 3 rfl rfl Tryz.underlying77 rfl rfl rfl (z7 j3)) (.keep (by kernel_rfl) rfl (by first | exact QT_loadW (cs := xb) 1 rfl rfl Tryz.underlying77 rfl rfl rfl (z7 j2) | exact QT_loadW (cs := xb) 2 rfl rfl Tryz.underlying77 rfl rfl rfl (z7 j2)) (.keep (by kernel_rfl) rfl (by first | exact QT_loadW (cs := xa) 0 rfl rfl Tryz.underlying77 rfl rfl rfl (z7 j1) | exact QT_loadW (cs := xa) 1 rfl rfl Tryz.underlying77 rfl rfl rfl (z7 j1)) (.nil))))))) ?_
          refine TV_e rfl rfl rfl rfl (rfl) (ET_buildN [_, _] rfl Tryz.underlying61 YtjdaglmkljbfkaaGreatDoorF.sz_79 YtjdaglmkljbfkaaGreatDoorF.zero_79 rfl rfl rfl (fun v hv => by rcases List.mem_cons.1 hv with rfl | hv; exact (B3_ints j1 j2 j3).length; cases List.mem_singleton.1 hv; exact (B3_ints j2 j4 j3).length)) ?_
          rintro _ _ ⟨b70, rfl, rfl⟩
          refine ⟨_, .keep (by kernel_rfl) rfl (by first | exact QT_loadW (cs := xc) 2 rfl rfl Tryz.underlying77 rfl rfl rfl (z7 j3) | exact QT_loadW (cs := xc) 3 rfl rfl Tryz.underlying77 rfl rfl rfl (z7 j3)) (.keep (by kernel_rfl) rfl (by first | exact QT_loadW (cs := xd) 3 rfl rfl Tryz.underlying77 rfl rfl rfl (z7 j4) | exact QT_loadW (cs := xd) 4 rfl rfl Tryz.underlying77 rfl rfl rfl (z7 j4)) (.keep (by kernel_rfl) rfl (by first | exact QT_loadW (cs := xb) 1 rfl rfl Tryz.underlying77 rfl rfl rfl (z7 j2) | exact QT_loadW (cs := xb) 2 rfl rfl Tryz.underlying77 rfl rfl rfl (z7 j2)) (.keep (by kernel_rfl) rfl (by first | exact QT_loadW (cs := xc) 2 rfl rfl Tryz.underlying77 rfl rfl rfl (z7 j3) | exact QT_loadW (cs := xc) 3 rfl rfl Tryz.underlying77 rfl rfl rfl (z7 j3)) (.keep (by kernel_rfl) rfl (by first | exact QT_loadW (cs := xb) 1 rfl rfl Tryz.underlying77 rfl rfl rfl (z7 j2) | exact QT_loadW (cs := xb) 2 rfl rfl Tryz.underlying77 rfl rfl rfl (z7 j2)) (.keep (by kernel_rfl) rfl (by first | exact QT_loadW (cs := xa) 0 rfl rfl Tryz.underlying77 rfl rfl rfl (z7 j1) | exact QT_loadW (cs := xa) 1 rfl rfl Tryz.underlying77 rfl rfl rfl (z7 j1)) (.nil)))))), ?_⟩
          refine TV_e rfl rfl rfl rfl (rfl) (ET_appendL (L := [_, _, _, _, _]) rfl Tryz.underlying61 el_Tri rfl rfl hfr (fun _ h => h) (SlA.own (n := 2) (xs := B3 xa xb xc ++ B3 xb xd xc) 0 rfl (two_own b1 b2).symm (two_len b1 b2) (by omega)) ((B3_ints j1 j2 j3).append (B3_ints j2 j4 j3)).oneCell (by omega) (by omega)) ?_
          rintro fv2 _ ⟨H', hF', rfl⟩
          refine ⟨_, .keep (by kernel_rfl) rfl (by first | exact QT_loadW (cs := xc) 2 rfl rfl Tryz.underlying77 rfl rfl rfl (z7 j3) | exact QT_loadW (cs := xc) 3 rfl rfl Tryz.underlying77 rfl rfl rfl (z7 j3)) (.keep (by kernel_rfl) rfl (by first | exact QT_loadW (cs := xd) 3 rfl rfl Tryz.underlying77 rfl rfl rfl (z7 j4) | exact QT_loadW (cs := xd) 4 rfl rfl Tryz.underlying77 rfl rfl rfl (z7 j4)) (.keep (by kernel_rfl) rfl (by first | exact QT_loadW (cs := xb) 1 rfl rfl Tryz.underlying77 rfl rfl rfl (z7 j2) | exact QT_loadW (cs := xb) 2 rfl rfl Tryz.underlying77 rfl rfl rfl (z7 j2)) (.keep (by kernel_rfl) rfl (by first | exact QT_loadW (cs := xc) 2 rfl rfl Tryz.underlying77 rfl rfl rfl (z7 j3) | exact QT_loadW (cs := xc) 3 rfl rfl Tryz.underlying77 rfl rfl rfl (z7 j3)) (.keep (by kernel_rfl) rfl (by first | exact QT_loadW (cs := xb) 1 rfl rfl Tryz.underlying77 rfl rfl rfl (z7 j2) | exact QT_loadW (cs := xb) 2 rfl rfl Tryz.underlying77 rfl rfl rfl (z7 j2)) (.keep (by kernel_rfl) rfl (by first | exact QT_loadW (cs := xa) 0 rfl rfl Tryz.underlying77 rfl rfl rfl (z7 j1) | exact QT_loadW (cs := xa) 1 rfl rfl Tryz.underlying77 rfl rfl rfl (z7 j1)) (.nil)))))), ?_⟩
          refine TV_q rfl rfl rfl (fun _ => QT_assign rfl rfl rfl) ?_
          refine TV_end ?_
          refine TX_block_normal ?_
          exact TX_cut ⟨(fv2, H'), by rw [outT_succ, hc, List.length_append, List.flatten_append]; simpa using hF'⟩ ⟨rfl, rfl, rfl, rfl, rfl, trivial⟩ (fun _ h => h.app_right (X := [_, _, _, _, _]))
      rintro ⟨⟨fv2, H2⟩, hF2⟩
      dsimp only at hF2 ⊢
      refine TC_reg ?_
      refine TL_q rfl rfl (QT_add rfl rfl rfl rfl (fun _ => ⟨by omega, by omega⟩)) ?_
      refine TL_q rfl rfl (QT_move rfl rfl rfl) ?_
      refine TL_nil ?_
      exact TX_round ⟨(i + 1, fv2, H2), by show i + 1 ≤ rs.length - row; omega, hF2⟩ (by show rs.length - row - (i + 1) < rs.length - row - i; omega) ⟨rfl, rfl, rfl, rfl, rfl, trivial⟩ (fun _ h => h)
    ·
      refine TC_exit ?_
      refine TX_then_exit ?_
      refine TX_then_exit ?_
      refine TX_block_here ?_
      refine TX_then ?_
      refine TC_seq ?_
      obtain rfl : i = rs.length - row := by omega
      refine TC_reg ?_
      refine TL_q rfl rfl (QT_move rfl rfl rfl) ?_
      refine TL_e rfl rfl rfl (rfl) (ET_call rfl YtjdaglmkljbfkaaGreatDoorF.cal_134 rfl (clipT_spec w0 η H fv _ _ hfr)) ?_
      rintro cv _ ⟨hF2, rfl⟩
      refine TL_q rfl rfl (QT_assign rfl rfl rfl) ?_
      refine TL_q rfl rfl (QT_assign rfl rfl rfl) ?_
      refine TL_nil ?_
      refine TX_then ?_
      refine TC_ret ?_
      refine TX_scope_ret ?_
      exact TX_ret (.inl rfl) (res2 rfl rfl rfl) ⟨_, ⟨cv, H, rfl, hF2, rfl⟩, fun _ h => h⟩
end Go.Proofs.YtjdaglmkljbfkaaGreatDoor
namespace Go.Proofs.YtjdaglmkljbfkaaGreatDoor
open Go Go.Gx Go.RowKit
set_option maxRecDepth 100000

theorem idx_lt {n row m q j : Nat} (hm : m * row = n) (hq : q + 1 < m) (hj : j + 1 < row) : q * row + j < n ∧ q * row + j + 1 < n ∧ (q + 1) * row + j < n ∧ (q + 1) * row + j + 1 < n ∧ (q + 1) * row + j = q * row + j + row := by
  have h1 : (q + 2) * row ≤ m * row := Nat.mul_le_mul_right _ (by omega)
  have h2 : (q + 2) * row = q * row + 2 * row := by rw [Nat.add_mul]
  have h3 : (q + 1) * row = q * row + row := by rw [Nat.add_mul, Nat.one_mul]
  omega
theorem cellF_in {rs : List R} {row q j : Nat} (hj : j + 1 < row) : cellF rs row (q * row + j) = [B3 (at7 rs (q * row + j)) (at7 rs (q * row + j + 1)) (at7 rs (q * row + j + row)), B3 (at7 rs (q * row + j + 1)) (at7 rs (q * row + j + row + 1)) (at7 rs (q * row + j + row))] := by
  rw [cellF, if_neg]
  rw [Nat.add_comm, Nat.add_mul_mod_self_right, Nat.mod_eq_of_lt (by omega)]; omega
theorem cellF_end {rs : List R} {row q j : Nat} (hj : j + 1 = row) : cellF rs row (q * row + j) = [] := by
  rw [cellF, if_pos]
  rw [Nat.add_comm, Nat.add_mul_mod_self_right, Nat.mod_eq_of_lt (by omega)]; omega

set_option maxHeartbeats 1000000 in
theorem cells_spec (w0 : Base) (η : Heap) (sv : Value) (rs : List R) (row : Nat) (hs : SlA (St w0 η) sv 7 rs.length rs.flatten) (ha : All7 rs) (hrow : 1 ≤ row) (hn : rs.length * 120 ≤ 140737488355328) :
    CallsT Tryz.prog 125 [sv, .int .i64 (row : Int)] (St w0 η) fun v A' => ∃ pv H, v = .tuple #[pv, .int .i64 (rowsF rs row).2] ∧ Frag 79 21 pv (rowsF rs row).1.length (rowsF rs row).1.flatten H ∧ A' = St w0 (H ++ η) := by
  obtain ⟨_, ad, cap, sb, so, rfl, hcap, had, hrd⟩ := hs.some
  have hz7 : ∀ {x : R}, Ints recK x → Sz Tryz.prog 77 x.length := fun h => by rw [h.length]; exact YtjdaglmkljbfkaaGreatDoorF.sz_77
  obtain ⟨m, hm⟩ : ∃ m, m = rs.length / row := ⟨_, rfl⟩
  have hml : m * row ≤ rs.length := by rw [hm]; exact Nat.div_mul_le_self _ _
  refine CallsT.body Tryz.func125 rfl rfl ?_
  simp only [Tryz.ntmps125, slotsOf, Nat.reduceAdd]
  refine TC_seq ?_
  refine TC_reg ?_
  refine TL_q rfl rfl (QT_assign rfl rfl rfl) ?_
  refine TL_q rfl rfl (QT_assign rfl rfl rfl) ?_
  refine TL_nil ?_
  refine TX_then ?_
  refine TC_seq ?_
  refine TC_reg ?_
  refine TL_q rfl rfl (QT_move rfl rfl rfl) ?_
  refine TL_q rfl rfl (QT_len rfl rfl Tryz.underlying31 rfl) ?_
  refine TL_q rfl rfl (QT_move rfl rfl rfl) ?_
  refine TL_q rfl rfl (QT_quo rfl rfl rfl rfl (fun _ => ⟨by omega, by omega, by omega⟩)) ?_
  refine TL_q rfl rfl (QT_assign rfl rfl rfl) ?_
  refine TL_nil ?_
  refine TX_then ?_
  refine TC_seq ?_
  refine TC_seq ?_
  refine TC_weaken (σ' := [(0, true, .slice ad rs.length cap), (1, true, .int .i64 (row : Int)), (4, true, .slice none 0 0), (5, true, .int .i64 0), (6, true, .int .i64 (m : Int))]) ⟨rfl, rfl, rfl, rfl, by rw [hm]; rfl, trivial⟩ (fun _ h => h) ?_
  refine TC_reg ?_
  refine TL_q rfl rfl (QT_move rfl rfl rfl) ?_
  refine TL_q rfl rfl (QT_move rfl rfl rfl) ?_
  refine TL_q rfl rfl (QT_mul rfl rfl rfl rfl (fun _ => i64_mul (by omega))) ?_
  refine TL_q rfl rfl (QT_move rfl rfl rfl) ?_
  refine TL_q rfl rfl (QT_len rfl rfl Tryz.underlying31 rfl) ?_
  refine TL_q rfl rfl (QT_neq rfl rfl rfl rfl) ?_
  refine TL_q rfl rfl (QT_move rfl rfl rfl) ?_
  refine TL_q rfl rfl (QT_move rfl rfl rfl) ?_
  refine TL_q rfl rfl (QT_lss rfl rfl rfl rfl) ?_
  refine TL_q rfl rfl (QT_or rfl rfl rfl rfl) ?_
  refine TL_nil ?_
  refine TX_then ?_
  refine TC_cond rfl (fun h27 => ?_) (fun h27 => ?_)
  ·
    refine TC_seq ?_
    refine TC_reg ?_
    refine TL_q rfl rfl (QT_assign rfl rfl rfl) ?_
    refine TL_q rfl rfl (QT_assign rfl rfl rfl) ?_
    refine TL_nil ?_
    refine TX_then ?_
    refine TC_ret ?_
    refine TX_then_ret ?_
    have he : rowsF rs row = ([], 5) := by
      rw [rowsF, if_neg]
      rintro ⟨h0, h2⟩
      rw [icast_mul] at h27
      simp only [Bool.or_eq_true, decide_eq_true_eq] at h27
      have := (two_rows h0 h2).2
      rw [← hm] at this h2
      omega
    rw [he]
    exact TX_ret (.inl rfl) (res2 rfl rfl rfl) ⟨_, ⟨_, [], rfl, Frag.nil _ _, rfl⟩, (fun _ h => by first | exact h | exact h.tail | exact h.tail.tail | exact h.tail.tail.tail | exact h.tail.tail.tail.tail | exact h.tail.tail.tail.tail.tail | exact h.tail.tail.tail.tail.tail.tail | exact h.tail.tail.tail.tail.tail.tail.tail | exact h.tail.tail.tail.tail.tail.tail.tail.tail | exact h.tail.tail.tail.tail.tail.tail.tail.tail.tail | exact h.tail.tail.tail.tail.tail.tail.tail.tail.tail.tail | exact h.tail.tail.tail.tail.tail.tail.tail.tail.tail.tail.tail | exact h.tail.tail.tail.tail.tail.tail.tail.tail.tail.tail.tail.tail | exact h.tail.tail.tail.tail.tail.tail.tail.tail.tail.tail.tail.tail.tail)⟩
  ·
    refine TC_skip ?_
    refine TX_then ?_
    refine TC_seq ?_
    rw [icast_mul] at h27
    simp only [Bool.or_eq_false_iff, decide_eq_false_iff_not, ne_eq, Classical.not_not] at h27
    have hm2 : 2 ≤ m := by omega
    have hmr : m * row = rs.length := by omega
    have hm0 : rs.length % row = 0 := by rw [← hmr]; exact Nat.mul_mod_left _ _
    have he : rowsF rs row = (outT rs row (rs.length - row), 0) := by rw [rowsF, if_pos ⟨hm0, by omega⟩]
    rw [he]
    have hmn : m ≤ rs.length := by rw [hm]; exact Nat.div_le_self _ _
    have hrn : 2 * row ≤ rs.length := (two_rows hm0 (by omega)).1
    clear he h27
    refine TC_reg ?_
    refine TL_q rfl rfl (QT_assign rfl rfl rfl) ?_
    refine TL_nil ?_
    refine TX_then ?_
    refine TC_seq ?_
    refine TC_seq ?_
    refine TC_reg ?_
    refine TL_q rfl rfl (QT_assign rfl rfl rfl) ?_
    refine TL_nil ?_
    refine TX_then ?_
    refine TC_block ?_
    refine TC_loop (γ := { t : Nat × Value × Heap // t.1 + 1 ≤ m ∧ Frag 79 21 t.2.1 (outT rs row (t.1 * row)).length (outT rs row (t.1 * row)).flatten t.2.2 }) (fun t => [(0, true, .slice ad rs.length cap), (1, true, .int .i64 (row : Int)), (6, true, .int .i64 (m : Int)), (7, true, t.1.2.1), (8, true, .int .i64 (t.1.1 : Int))]) (fun t => St w0 (t.1.2.2 ++ η)) (fun t => m - t.1.1) ⟨(0, .slice none 0 0, []), by show 0 + 1 ≤ m; omega, by simp only [Nat.zero_mul]; exact Frag.nil _ _⟩ ⟨rfl, rfl, rfl, rfl, rfl, trivial⟩ (fun _ h => h) ?_
    rintro ⟨⟨q, fv, H⟩, hq, hfr⟩
    dsimp only at hq hfr ⊢
    have hmr2 := hmr
    refine TC_seq ?_
    refine TC_seq ?_
    refine TC_reg ?_
    refine TL_q rfl rfl (QT_move rfl rfl rfl) ?_
    refine TL_q rfl rfl (QT_add rfl rfl rfl rfl (fun _ => ⟨by omega, by omega⟩)) ?_
    refine TL_q rfl rfl (QT_move rfl rfl rfl) ?_
    refine TL_q rfl rfl (QT_lss rfl rfl rfl rfl) ?_
    refine TL_nil ?_
    refine TX_then ?_
    refine TC_cond_dec rfl (fun h31 => ?_) (fun h31 => ?_)
    ·
      refine TC_skip ?_
      refine TX_then ?_
      refine TC_seq ?_
      refine TC_block ?_
      refine TC_seq ?_
      refine TC_reg ?_
      refine TL_q rfl rfl (QT_assign rfl rfl rfl) ?_
      refine TL_nil ?_
      refine TX_then ?_
      refine TC_block ?_
      refine TC_loop (γ := { t : Nat × Value × Heap // t.1 + 1 ≤ row ∧ Frag 79 21 t.2.1 (outT rs row (q * row + t.1)).length (outT rs row (q * row + t.1)).flatten t.2.2 }) (fun t => [(0, true, .slice ad rs.length cap), (1, true, .int .i64 (row : Int)), (6, true, .int .i64 (m : Int)), (7, true, t.1.2.1), (8, true, .int .i64 (q : Int)), (9, true, .int .i64 (t.1.1 : Int))]) (fun t => St w0 (t.1.2.2 ++ η)) (fun t => row - t.1.1) ⟨(0, fv, H), by show 0 + 1 ≤ row; omega, hfr⟩ ⟨rfl, rfl, rfl, rfl, rfl, rfl, trivial⟩ (fun _ h => h) ?_
      rintro ⟨⟨j, fv, H⟩, hj, hfr⟩
      dsimp only at hj hfr ⊢
      refine TC_seq ?_
      refine TC_seq ?_
      refine TC_reg ?_
      refine TL_q rfl rfl (QT_move rfl rfl rfl) ?_
      refine TL_q rfl rfl (QT_add rfl rfl rfl rfl (fun _ => ⟨by omega, by omega⟩)) ?_
      refine TL_q rfl rfl (QT_move rfl rfl rfl) ?_
      refine TL_q rfl rfl (QT_lss rfl rfl rfl rfl) ?_
      refine TL_nil ?_
      refine TX_then ?_
      refine TC_cond_dec rfl (fun h37 => ?_) (fun h37 => ?_)
      ·
        obtain ⟨hi1, hi2, hi3, hi4, hi5⟩ := idx_lt (n := rs.length) (row := row) (q := q) (j := j) hmr2 (by omega) (by omega)
        have hc := cellF_in (rs := rs) (row := row) (q := q) (j := j) (by omega)
        have hl := outT_len rs row (q * row + j)
        rw [← hi5] at hc
        have hqr1 : q * row ≤ 9223372036854775807 := by omega
        have hqr2 : (q + 1) * row ≤ 9223372036854775807 := by omega
        have e1 : (q : Int) * (row : Int) = ((q * row : Nat) : Int) := rfl
        have e2 : ((q : Int) + 1) * (row : Int) = (((q + 1) * row : Nat) : Int) := rfl
        obtain ⟨f1, g1⟩ := flat_at7 ha hi1
        obtain ⟨f2, g2⟩ := flat_at7 ha hi2
        obtain ⟨f3, g3⟩ := flat_at7 ha hi3
        obtain ⟨f4, g4⟩ := flat_at7 ha hi4
        have j1 := at7_ints ha hi1
        have j2 := at7_ints ha hi2
        have j3 := at7_ints ha hi3
        have j4 := at7_ints ha hi4
        generalize at7 rs (q * row + j) = xa at *
        generalize at7 rs (q * row + j + 1) = xb at *
        generalize at7 rs ((q + 1) * row + j) = xc at *
        generalize at7 rs ((q + 1) * row + j + 1) = xd at *
        have b1 := B3_ints j1 j2 j3
        have b2 := B3_ints j2 j4 j3
        have k1 := bareR_ints j1
        have k2 := bareR_ints j2
        have k3 := bareR_ints j3
        have k4 := bareR_ints j4
        refine TC_skip ?_
        refine TX_then ?_
        refine TC_seq ?_
        refine TC_block ?_
        refine TC_seq ?_
        refine TC_reg ?_
        refine TL_q rfl rfl (QT_move rfl rfl rfl) ?_
        refine TL_q rfl rfl (QT_move rfl rfl rfl) ?_
        refine TL_q rfl rfl (QT_move rfl rfl rfl) ?_
        refine TL_q rfl rfl (QT_mul rfl rfl rfl rfl (fun _ => i64_mul hqr1)) ?_
        refine TL_q rfl rfl (QT_move rfl rfl rfl) ?_
        refine TL_q rfl rfl (QT_add rfl rfl rfl rfl (fun _ => ⟨by omega, by omega⟩)) ?_
        refine TL_q rfl rfl (QT_indexG (q * row + j) rfl rfl Tryz.underlying31 YtjdaglmkljbfkaaGreatDoorF.sz_77 rfl rfl rfl (fun _ => hi1) (fun _ => had (by omega))) ?_
        refine TL_q rfl rfl (QT_loadRAj (out := xa) ((q * row + j) * 7) rfl rfl Tryz.underlying77 rfl YtjdaglmkljbfkaaGreatDoorF.sz_77 (hrd.deep (by intro _ hw; first | exact hw | exact hw.app_right | exact hw.app_right.app_right | exact hw.tail | exact hw.tail.app_right | exact hw.tail.tail | exact hw.tail.tail.app_right | exact hw.tail.tail.tail | exact hw.tail.tail.tail.app_right | exact hw.tail.tail.tail.tail | exact hw.tail.tail.tail.tail.app_right | exact hw.tail.tail.tail.tail.tail | exact hw.tail.tail.tail.tail.tail.app_right | exact hw.tail.tail.tail.tail.tail.tail | exact hw.tail.tail.tail.tail.tail.tail.app_right)) rfl (fun _ => g1) (fun _ => f1)) ?_
        refine TL_cq rfl rfl rfl rfl YtjdaglmkljbfkaaGreatDoorF.cal_126 rfl (fun _ => plain_spec w0 _ xa j1) ?_
        refine TL_e rfl rfl rfl (rfl) (ET_alloc rfl YtjdaglmkljbfkaaGreatDoorF.zero_77) ?_
        rintro _ _ ⟨b10, rfl, rfl⟩
        refine TL_e0 rfl rfl (rfl) (ET_storeW (vs := bareR xa) 0 rfl rfl rfl (hz7 k1) rfl (List.all_eq_true.2 k1.oneCell) (by rw [k1.length]; rfl)) ?_
        rintro _ _ ⟨rfl, rfl⟩
        refine TL_nil ?_
        refine TX_then ?_
        refine TC_seq ?_
        refine TC_reg ?_
        refine TL_q rfl rfl (QT_move rfl rfl rfl) ?_
        refine TL_q rfl rfl (QT_move rfl rfl rfl) ?_
        refine TL_q rfl rfl (QT_move rfl rfl rfl) ?_
        refine TL_q rfl rfl (QT_mul rfl rfl rfl rfl (fun _ => i64_mul hqr1)) ?_
        refine TL_q rfl rfl (QT_move rfl rfl rfl) ?_
        refine TL_q rfl rfl (QT_add rfl rfl rfl rfl (fun _ => ⟨by omega, by omega⟩)) ?_
        refine TL_q rfl rfl (QT_add rfl rfl rfl rfl (fun _ => ⟨by omega, by omega⟩)) ?_
        refine TL_q rfl rfl (QT_indexG (q * row + j + 1) rfl rfl Tryz.underlying31 YtjdaglmkljbfkaaGreatDoorF.sz_77 rfl rfl rfl (fun _ => hi2) (fun _ => had (by omega))) ?_
        refine TL_q rfl rfl (QT_loadRAj (out := xb) ((q * row + j + 1) * 7) rfl rfl Tryz.underlying77 rfl YtjdaglmkljbfkaaGreatDoorF.sz_77 (hrd.deep (by intro _ hw; first | exact hw | exact hw.app_right | exact hw.app_right.app_right | exact hw.tail | exact hw.tail.app_right | exact hw.tail.tail | exact hw.tail.tail.app_right | exact hw.tail.tail.tail | exact hw.tail.tail.tail.app_right | exact hw.tail.tail.tail.tail | exact hw.tail.tail.tail.tail.app_right | exact hw.tail.tail.tail.tail.tail | exact hw.tail.tail.tail.tail.tail.app_right | exact hw.tail.tail.tail.tail.tail.tail | exact hw.tail.tail.tail.tail.tail.tail.app_right)) rfl (fun _ => g2) (fun _ => f2)) ?_
        refine TL_cq rfl rfl rfl rfl YtjdaglmkljbfkaaGreatDoorF.cal_126 rfl (fun _ => plain_spec w0 _ xb j2) ?_
        refine TL_e rfl rfl rfl (rfl) (ET_alloc rfl YtjdaglmkljbfkaaGreatDoorF.zero_77) ?_
        rintro _ _ ⟨b11, rfl, rfl⟩
        refine TL_e0 rfl rfl (rfl) (ET_storeW (vs := bareR xb) 0 rfl rfl rfl (hz7 k2) rfl (List.all_eq_true.2 k2.oneCell) (by rw [k2.length]; rfl)) ?_
        rintro _ _ ⟨rfl, rfl⟩
        refine TL_nil ?_
        refine TX_then ?_
        refine TC_seq ?_
        refine TC_reg ?_
        refine TL_q rfl rfl (QT_move rfl rfl rfl) ?_
        refine TL_q rfl rfl (QT_move rfl rfl rfl) ?_
        refine TL_q rfl rfl (QT_add rfl rfl rfl rfl (fun _ => ⟨by omega, by omega⟩)) ?_
        refine TL_q rfl rfl (QT_move rfl rfl rfl) ?_
        refine TL_q rfl rfl (QT_mul rfl rfl rfl rfl (fun _ => i64_mul (a := q + 1) hqr2)) ?_
        refine TL_q rfl rfl (QT_move rfl rfl rfl) ?_
        refine TL_q rfl rfl (QT_add rfl rfl rfl rfl (fun _ => ⟨by omega, by omega⟩)) ?_
        refine TL_q rfl rfl (QT_indexG ((q + 1) * row + j) rfl rfl Tryz.underlying31 YtjdaglmkljbfkaaGreatDoorF.sz_77 rfl rfl rfl (fun _ => hi3) (fun _ => had (by omega))) ?_
        refine TL_q rfl rfl (QT_loadRAj (out := xc) (((q + 1) * row + j) * 7) rfl rfl Tryz.underlying77 rfl YtjdaglmkljbfkaaGreatDoorF.sz_77 (hrd.deep (by intro _ hw; first | exact hw | exact hw.app_right | exact hw.app_right.app_right | exact hw.tail | exact hw.tail.app_right | exact hw.tail.tail | exact hw.tail.tail.app_right | exact hw.tail.tail.tail | exact hw.tail.tail.tail.app_right | exact hw.tail.tail.tail.tail | exact hw.tail.tail.tail.tail.app_right | exact hw.tail.tail.tail.tail.tail | exact hw.tail.tail.tail.tail.tail.app_right | exact hw.tail.tail.tail.tail.tail.tail | exact hw.tail.tail.tail.tail.tail.tail.app_right)) rfl (fun _ => g3) (fun _ => f3)) ?_
        refine TL_cq rfl rfl rfl rfl YtjdaglmkljbfkaaGreatDoorF.cal_126 rfl (fun _ => plain_spec w0 _ xc j3) ?_
        refine TL_e rfl rfl rfl (rfl) (ET_alloc rfl YtjdaglmkljbfkaaGreatDoorF.zero_77) ?_
        rintro _ _ ⟨b12, rfl, rfl⟩
        refine TL_e0 rfl rfl (rfl) (ET_storeW (vs := bareR xc) 0 rfl rfl rfl (hz7 k3) rfl (List.all_eq_true.2 k3.oneCell) (by rw [k3.length]; rfl)) ?_
        rintro _ _ ⟨rfl, rfl⟩
        refine TL_nil ?_
        refine TX_then ?_
        refine TC_seq ?_
        refine TC_reg ?_
        refine TL_q rfl rfl (QT_move rfl rfl rfl) ?_
        refine TL_q rfl rfl (QT_move rfl rfl rfl) ?_
        refine TL_q rfl rfl (QT_add rfl rfl rfl rfl (fun _ => ⟨by omega, by omega⟩)) ?_
        refine TL_q rfl rfl (QT_move rfl rfl rfl) ?_
        refine TL_q rfl rfl (QT_mul rfl rfl rfl rfl (fun _ => i64_mul (a := q + 1) hqr2)) ?_
        refine TL_q rfl rfl (QT_move rfl rfl rfl) ?_
        refine TL_q rfl rfl (QT_add rfl rfl rfl rfl (fun _ => ⟨by omega, by omega⟩)) ?_
        refine TL_q rfl rfl (QT_add rfl rfl rfl rfl (fun _ => ⟨by omega, by omega⟩)) ?_
        refine TL_q rfl rfl (QT_indexG ((q + 1) * row + j + 1) rfl rfl Tryz.underlying31 YtjdaglmkljbfkaaGreatDoorF.sz_77 rfl rfl rfl (fun _ => hi4) (fun _ => had (by omega))) ?_
        refine TL_q rfl rfl (QT_loadRAj (out := xd) (((q + 1) * row + j + 1) * 7) rfl rfl Tryz.underlying77 rfl YtjdaglmkljbfkaaGreatDoorF.sz_77 (hrd.deep (by intro _ hw; first | exact hw | exact hw.app_right | exact hw.app_right.app_right | exact hw.tail | exact hw.tail.app_right | exact hw.tail.tail | exact hw.tail.tail.app_right | exact hw.tail.tail.tail | exact hw.tail.tail.tail.app_right | exact hw.tail.tail.tail.tail | exact hw.tail.tail.tail.tail.app_right | exact hw.tail.tail.tail.tail.tail | exact hw.tail.tail.tail.tail.tail.app_right | exact hw.tail.tail.tail.tail.tail.tail | exact hw.tail.tail.tail.tail.tail.tail.app_right)) rfl (fun _ => g4) (fun _ => f4)) ?_
        refine TL_cq rfl rfl rfl rfl YtjdaglmkljbfkaaGreatDoorF.cal_126 rfl (fun _ => plain_spec w0 _ xd j4) ?_
        refine TL_e rfl rfl rfl (rfl) (ET_alloc rfl YtjdaglmkljbfkaaGreatDoorF.zero_77) ?_
        rintro _ _ ⟨b13, rfl, rfl⟩
        refine TL_e0 rfl rfl (rfl) (ET_storeW (vs := bareR xd) 0 rfl rfl rfl (hz7 k4) rfl (List.all_eq_true.2 k4.oneCell) (by rw [k4.length]; rfl)) ?_
        rintro _ _ ⟨rfl, rfl⟩
        refine TL_nil ?_
        refine TX_then ?_
        refine TC_seq ?_
        refine TC_reg ?_
        refine TL_q rfl rfl (QT_move rfl rfl rfl) ?_
        refine TL_q rfl rfl (QT_loadW (cs := bareR xa) 3 rfl rfl Tryz.underlying77 rfl rfl rfl (hz7 k1)) ?_
        refine TL_q rfl rfl (QT_loadW (cs := bareR xb) 2 rfl rfl Tryz.underlying77 rfl rfl rfl (hz7 k2)) ?_
        refine TL_q rfl rfl (QT_loadW (cs := bareR xc) 1 rfl rfl Tryz.underlying77 rfl rfl rfl (hz7 k3)) ?_
        refine TL_q rfl rfl (QT_buildArr (out := B3 xa xb xc) rfl rfl YtjdaglmkljbfkaaGreatDoorF.zero_79 Tryz.underlying79 YtjdaglmkljbfkaaGreatDoorF.sz_77 rfl rfl (seg3 k1.length k2.length k3.length rfl)) ?_
        refine TL_e rfl rfl rfl (rfl) (ET_buildN [_] rfl Tryz.underlying61 YtjdaglmkljbfkaaGreatDoorF.sz_79 YtjdaglmkljbfkaaGreatDoorF.zero_79 rfl rfl rfl (fun v hv => by cases List.mem_singleton.1 hv; exact b1.length)) ?_
        rintro _ _ ⟨b85, rfl, rfl⟩
        refine TL_e rfl rfl rfl (rfl) (ET_appendL (L := [_, _, _, _, _]) rfl Tryz.underlying61 el_Tri rfl rfl hfr (fun _ h => h) (SlA.own (n := 1) (xs := B3 xa xb xc) 0 rfl (one_own b1.length).symm (one_len b1.length) (by omega)) b1.oneCell (by omega) (by omega)) ?_
        rintro fv1 _ ⟨H1, hF1, rfl⟩
        refine TL_q rfl rfl (QT_assign rfl rfl rfl) ?_
        refine TL_nil ?_
        refine TX_then ?_
        refine TC_reg ?_
        refine TL_q rfl rfl (QT_move rfl rfl rfl) ?_
        refine TL_q rfl rfl (QT_loadW (cs := bareR xb) 3 rfl rfl Tryz.underlying77 rfl rfl rfl (hz7 k2)) ?_
        refine TL_q rfl rfl (QT_loadW (cs := bareR xd) 1 rfl rfl Tryz.underlying77 rfl rfl rfl (hz7 k4)) ?_
        refine TL_q rfl rfl (QT_loadW (cs := bareR xc) 2 rfl rfl Tryz.underlying77 rfl rfl rfl (hz7 k3)) ?_
        refine TL_q rfl rfl (QT_buildArr (out := B3 xb xd xc) rfl rfl YtjdaglmkljbfkaaGreatDoorF.zero_79 Tryz.underlying79 YtjdaglmkljbfkaaGreatDoorF.sz_77 rfl rfl (seg3 k2.length k4.length k3.length rfl)) ?_
        refine TL_e rfl rfl rfl (rfl) (ET_buildN [_] rfl Tryz.underlying61 YtjdaglmkljbfkaaGreatDoorF.sz_79 YtjdaglmkljbfkaaGreatDoorF.zero_79 rfl rfl rfl (fun v hv => by cases List.mem_singleton.1 hv; exact b2.length)) ?_
        rintro _ _ ⟨b92, rfl, rfl⟩
        refine TL_e rfl rfl rfl (rfl) (ET_appendL (L := [_, _, _, _, _, _]) rfl Tryz.underlying61 el_Tri rfl rfl hF1 (fun _ h => h) (SlA.own (n := 1) (xs := B3 xb xd xc) 0 rfl (one_own b2.length).symm (one_len b2.length) (by omega)) b2.oneCell (by omega) (by omega)) ?_
        rintro fv2 _ ⟨H2, hF2, rfl⟩
        refine TL_q rfl rfl (QT_assign rfl rfl rfl) ?_
        refine TL_nil ?_
        refine TX_block_normal ?_
        refine TX_then ?_
        refine TC_reg ?_
        refine TL_q rfl rfl (QT_move rfl rfl rfl) ?_
        refine TL_q rfl rfl (QT_add rfl rfl rfl rfl (fun _ => ⟨by omega, by omega⟩)) ?_
        refine TL_q rfl rfl (QT_assign rfl rfl rfl) ?_
        refine TL_nil ?_
        exact TX_round ⟨(j + 1, fv2, H2), by show j + 1 + 1 ≤ row; omega, by
          show Frag _ _ _ (outT rs row (q * row + j + 1)).length (outT rs row (q * row + j + 1)).flatten _
          rw [outT_succ, hc, List.length_append, List.flatten_append]
          simpa [List.append_assoc] using hF2⟩ (by show row - (j + 1) < row - j; omega) ⟨rfl, rfl, rfl, rfl, rfl, rfl, trivial⟩ (fun _ h => h.app_right (X := [_, _, _, _, _, _]))
      ·
        refine TC_exit ?_
        refine TX_then_exit ?_
        refine TX_then_exit ?_
        refine TX_block_here ?_
        refine TX_block_normal ?_
        refine TX_then ?_
        refine TC_reg ?_
        refine TL_q rfl rfl (QT_move rfl rfl rfl) ?_
        refine TL_q rfl rfl (QT_add rfl rfl rfl rfl (fun _ => ⟨by omega, by omega⟩)) ?_
        refine TL_q rfl rfl (QT_assign rfl rfl rfl) ?_
        refine TL_nil ?_
        exact TX_round ⟨(q + 1, fv, H), by show q + 1 + 1 ≤ m; omega, by
          obtain rfl : row = j + 1 := by omega
          show Frag _ _ _ (outT rs (j + 1) ((q + 1) * (j + 1))).length (outT rs (j + 1) ((q + 1) * (j + 1))).flatten _
          rw [show (q + 1) * (j + 1) = q * (j + 1) + j + 1 by rw [Nat.add_mul]; omega, outT_succ, cellF_end rfl, List.append_nil]
          exact hfr⟩ (by show m - (q + 1) < m - q; omega) ⟨rfl, rfl, rfl, rfl, rfl, trivial⟩ (fun _ h => h)
    ·
      refine TC_exit ?_
      refine TX_then_exit ?_
      refine TX_then_exit ?_
      refine TX_block_here ?_
      refine TX_then ?_
      refine TC_seq ?_
      refine TC_reg ?_
      refine TL_q rfl rfl (QT_move rfl rfl rfl) ?_
      refine TL_q rfl rfl (QT_assign rfl rfl rfl) ?_
      refine TL_q rfl rfl (QT_assign rfl rfl rfl) ?_
      refine TL_nil ?_
      refine TX_then ?_
      refine TC_ret ?_
      have hqe : q * row = rs.length - row := by
        obtain rfl : m = q + 1 := by omega
        rw [← hmr, Nat.add_mul]; omega
      rw [hqe] at hfr
      exact TX_ret (.inl rfl) (res2 rfl rfl rfl) ⟨_, ⟨fv, H, rfl, hfr, rfl⟩, fun _ h => h⟩
end Go.Proofs.YtjdaglmkljbfkaaGreatDoor
namespace Go.Proofs.YtjdaglmkljbfkaaGreatDoor
open Go Go.Gx Go.RowKit
set_option maxRecDepth 100000

def headBad (rs : List R) : Prop := match rs with
  | x :: _ => flagR x ≠ 0
  | [] => False
instance (rs : List R) : Decidable (headBad rs) := by unfold headBad; split <;> infer_instance
def strips (rs : List R) : List R × Int := stripF (rs.length + 1) rs zR zR zR []
def trioF (L : Lay) (rs : List R) : List R × Int :=
  if okB L = true ∧ (L.ty = 4 ∨ L.ty = 5) then (if L.ty = 5 then rowsF rs L.ro.toNat else if headBad rs then ([], 6) else strips rs) else ([], 4)
theorem trio4 {L : Lay} {rs : List R} (h : ¬(okB L = true ∧ (L.ty = 4 ∨ L.ty = 5))) : trioF L rs = ([], 4) := by rw [trioF, if_neg h]
theorem trio5 {L : Lay} {rs : List R} (h : okB L = true) (h5 : L.ty = 5) : trioF L rs = rowsF rs L.ro.toNat := by rw [trioF, if_pos ⟨h, .inr h5⟩, if_pos h5]
theorem trio6 {L : Lay} {rs : List R} (h : okB L = true) (h4 : L.ty = 4) (hb : headBad rs) : trioF L rs = ([], 6) := by rw [trioF, if_pos ⟨h, .inl h4⟩, if_neg (by omega), if_pos hb]
theorem trioS {L : Lay} {rs : List R} (h : okB L = true) (h4 : L.ty = 4) (hb : ¬headBad rs) : trioF L rs = strips rs := by rw [trioF, if_pos ⟨h, .inl h4⟩, if_neg (by omega), if_neg hb]
theorem ok_of {L : Lay} (h : ¬errOf L ≠ 0) : okB L = true := by
  by_cases hk : okB L = true
  · exact hk
  · exact absurd (by simp [errOf, hk]) h
theorem head_flag {rs : List R} (ha : All7 rs) (h : 0 < rs.length) : rs.flatten[0 * 7]? = some (.int .u8 (flagR (at7 rs 0) : Int)) := by
  cases rs with
  | nil => simp at h
  | cons x v =>
    have hx := ha x (List.mem_cons_self ..)
    have h1 := (flagR_spec hx).1
    rw [Nat.zero_mul, List.flatten_cons, List.getElem?_append_left (by rw [hx.length]; decide)]
    exact h1
theorem rows_at {r : Int} {row : Nat} (hr : r = (row : Int)) (w0 : Base) (η : Heap) (sv : Value) (rs : List R) (hs : SlA (St w0 η) sv 7 rs.length rs.flatten) (ha : All7 rs) (hrow : 1 ≤ row) (hn : rs.length * 120 ≤ 140737488355328) :
    CallsT Tryz.prog 119 [sv, .int .i64 r] (St w0 η) fun v A' => ∃ pv H, v = .tuple #[pv, .int .i64 (rowsF rs row).2] ∧ Frag 79 21 pv (rowsF rs row).1.length (rowsF rs row).1.flatten H ∧ A' = St w0 (H ++ η) := by
  subst hr; exact rows_spec w0 η sv rs row hs ha hrow hn
theorem cells_at {r : Int} {row : Nat} (hr : r = (row : Int)) (w0 : Base) (η : Heap) (sv : Value) (rs : List R) (hs : SlA (St w0 η) sv 7 rs.length rs.flatten) (ha : All7 rs) (hrow : 1 ≤ row) (hn : rs.length * 120 ≤ 140737488355328) :
    CallsT Tryz.prog 125 [sv, .int .i64 r] (St w0 η) fun v A' => ∃ pv H, v = .tuple #[pv, .int .i64 (rowsF rs row).2] ∧ Frag 79 21 pv (rowsF rs row).1.length (rowsF rs row).1.flatten H ∧ A' = St w0 (H ++ η) := by
  subst hr; exact cells_spec w0 η sv rs row hs ha hrow hn
theorem of_spec (w0 : Base) (η : Heap) (hG : Sets w0) (L : Lay) (sv : Value) (rs : List R) (hs : SlA (St w0 η) sv 7 rs.length rs.flatten) (ha : All7 rs) (hn : rs.length * 120 ≤ 140737488355328) :
    CallsT Tryz.prog 81 [L.val, sv] (St w0 η) fun v A' => ∃ pv H, v = .tuple #[pv, .int .i64 (trioF L rs).2] ∧ Frag 79 21 pv (trioF L rs).1.length (trioF L rs).1.flatten H ∧ ∃ X, A' = St w0 (H ++ (X ++ η)) := by
  refine CallsT.body Tryz.func81 rfl rfl ?_
  simp only [Tryz.ntmps81, slotsOf, Nat.reduceAdd]
  refine TC_seq ?_
  refine TC_reg ?_
  refine TL_e rfl rfl rfl (rfl) (ET_box rfl rfl) ?_
  rintro _ _ ⟨b2, rfl, rfl⟩
  refine TL_q rfl rfl (QT_assign rfl rfl rfl) ?_
  refine TL_q rfl rfl (QT_assign rfl rfl rfl) ?_
  refine TL_nil ?_
  refine TX_then ?_
  refine TC_seq ?_
  refine TC_reg ?_
  refine TL_q rfl rfl (QT_move rfl rfl rfl) ?_
  refine TL_e rfl rfl rfl (rfl) (ET_call rfl YtjdaglmkljbfkaaGreatDoorF.cal_118 rfl (cloneR_spec w0 _ sv rs.length rs.flatten hs.tail (flat_ints (s := 7) ha) (by omega))) ?_
  rintro cv _ ⟨Hc, hFc, rfl⟩
  refine TL_q rfl rfl (QT_assign rfl rfl rfl) ?_
  refine TL_nil ?_
  refine TX_then ?_
  refine TC_seq ?_
  refine TC_block ?_
  refine TC_seq ?_
  refine TC_A (St w0 ((b2, 27, L.cells) :: (Hc ++ η))) (fun _ h => h.perm List.perm_middle.symm) ?_
  have hsc : SlA (St w0 (Hc ++ η)) cv 7 rs.length rs.flatten := hFc.sla
  obtain ⟨_, ad, cap, sb, so, rfl, hcap, had, hrd⟩ := hsc.some
  refine TC_reg ?_
  refine TL_q rfl rfl (QT_loadW 0 rfl rfl Tryz.underlying27 rfl rfl rfl YtjdaglmkljbfkaaGreatDoorF.sz_27) ?_
  refine TL_cq rfl rfl rfl rfl YtjdaglmkljbfkaaGreatDoorF.cal_26 rfl (fun _ => check_spec w0 _ hG L) ?_
  refine TL_q rfl rfl (QT_neq rfl rfl rfl rfl) ?_
  refine TL_q rfl rfl (QT_move rfl rfl rfl) ?_
  refine TL_q rfl rfl (QT_field rfl rfl YtjdaglmkljbfkaaGreatDoorF.fld_27_0 rfl) ?_
  refine TL_q rfl rfl (QT_load 0 rfl rfl Tryz.underlying3 rfl rfl rfl (fun _ => rfl)) ?_
  refine TL_q rfl rfl (QT_gtr rfl rfl rfl rfl) ?_
  refine TL_q rfl rfl (QT_or rfl rfl rfl rfl) ?_
  refine TL_q rfl rfl (QT_assign rfl rfl rfl) ?_
  refine TL_nil ?_
  refine TX_then ?_
  refine TC_cond rfl (fun h8 => ?_) (fun h8 => ?_)
  ·
    refine TC_seq ?_
    refine TC_reg ?_
    refine TL_q rfl rfl (QT_assign rfl rfl rfl) ?_
    refine TL_q rfl rfl (QT_assign rfl rfl rfl) ?_
    refine TL_nil ?_
    refine TX_then ?_
    refine TC_ret ?_
    refine TX_block_ret ?_
    refine TX_then_ret ?_
    rw [trio4 (by
      simp only [Bool.or_eq_true, decide_eq_true_eq] at h8
      rintro ⟨h1, h2⟩
      simp [errOf, h1] at h8
      omega)]
    exact TX_ret (.inl rfl) (res2 rfl rfl rfl) ⟨_, ⟨_, [], rfl, Frag.nil _ _, Hc, rfl⟩, fun _ h => h.tail⟩
  ·
    refine TC_seq ?_
    simp only [Bool.or_eq_false_iff, decide_eq_false_iff_not] at h8
    have hk : okB L = true := ok_of h8.1
    have hty := (okB_bounds hk).2.2.2.1
    refine TC_reg ?_
    refine TL_q rfl rfl (QT_field rfl rfl YtjdaglmkljbfkaaGreatDoorF.fld_27_0 rfl) ?_
    refine TL_q rfl rfl (QT_load 0 rfl rfl Tryz.underlying3 rfl rfl rfl (fun _ => rfl)) ?_
    refine TL_q rfl rfl (QT_eql rfl rfl rfl rfl) ?_
    refine TL_q rfl rfl (QT_assign rfl rfl rfl) ?_
    refine TL_nil ?_
    refine TX_then ?_
    refine TC_cond_dec rfl (fun h17 => ?_) (fun h17 => ?_)
    ·
      refine TC_seq ?_
      have h5 : L.ty = 5 := by simpa using h17
      have hro := (okB_bounds hk).2.2.2.2.1 h5
      rw [trio5 hk h5]
      have her : L.ro = ((L.ro.toNat : Nat) : Int) := by omega
      refine TC_reg ?_
      refine TL_q rfl rfl (QT_move rfl rfl rfl) ?_
      refine TL_q rfl rfl (QT_field rfl rfl YtjdaglmkljbfkaaGreatDoorF.fld_27_5 rfl) ?_
      refine TL_q rfl rfl (QT_load 0 rfl rfl Tryz.underlying3 rfl rfl rfl (fun _ => rfl)) ?_
      refine TL_A (St w0 (Hc ++ η)) (fun _ h => h.tail) ?_
      refine TL_e rfl rfl rfl (rfl) (ET_call rfl YtjdaglmkljbfkaaGreatDoorF.cal_119 rfl (rows_at her w0 _ _ rs hsc ha (by omega) hn)) ?_
      rintro _ _ ⟨pv, Hr, rfl, hFr, rfl⟩
      refine TL_q rfl rfl (QT_extract rfl rfl rfl rfl) ?_
      refine TL_q rfl rfl (QT_extract rfl rfl rfl rfl) ?_
      refine TL_q rfl rfl (QT_assign rfl rfl rfl) ?_
      refine TL_q rfl rfl (QT_assign rfl rfl rfl) ?_
      refine TL_nil ?_
      refine TX_then ?_
      refine TC_ret ?_
      refine TX_block_ret ?_
      refine TX_then_ret ?_
      exact TX_ret (.inl rfl) (res2 rfl rfl rfl) ⟨_, ⟨pv, Hr, rfl, hFr, Hc, rfl⟩, fun _ h => h⟩
    ·
      refine TC_seq ?_
      have h4 : L.ty = 4 := by
        have : L.ty ≠ 5 := by simpa using h17
        omega
      refine TC_reg ?_
      refine TL_q rfl rfl (QT_move rfl rfl rfl) ?_
      refine TL_q rfl rfl (QT_len rfl rfl Tryz.underlying31 rfl) ?_
      refine TL_q rfl rfl (QT_gtr rfl rfl rfl rfl) ?_
      refine TL_q rfl rfl (QT_move rfl rfl rfl) ?_
      refine TL_q rfl rfl (QT_move rfl rfl rfl) ?_
      refine TL_q rfl rfl (QT_indexG 0 rfl rfl Tryz.underlying31 YtjdaglmkljbfkaaGreatDoorF.sz_77 rfl rfl rfl (fun h => by simpa using h) (fun h => had (by simpa using h))) ?_
      refine TL_q rfl rfl (QT_field rfl rfl YtjdaglmkljbfkaaGreatDoorF.fld_77_0 rfl) ?_
      refine TL_q rfl rfl (QT_loadRj (v := .int .u8 (flagR (at7 rs 0) : Int)) (0 * 7) rfl rfl Tryz.underlying5 rfl (hrd.deep (by intro _ hw; first | exact hw | exact hw.app_right | exact hw.app_right.app_right | exact hw.tail | exact hw.tail.app_right | exact hw.tail.tail | exact hw.tail.tail.app_right | exact hw.tail.tail.tail | exact hw.tail.tail.tail.app_right | exact hw.tail.tail.tail.tail | exact hw.tail.tail.tail.tail.app_right | exact hw.tail.tail.tail.tail.tail | exact hw.tail.tail.tail.tail.tail.app_right | exact hw.tail.tail.tail.tail.tail.tail | exact hw.tail.tail.tail.tail.tail.tail.app_right)) rfl (fun h => head_flag ha (by simpa using h))) ?_
      refine TL_q rfl rfl (QT_neq rfl rfl rfl rfl) ?_
      refine TL_q rfl rfl (QT_and rfl rfl rfl rfl) ?_
      refine TL_q rfl rfl (QT_assign rfl rfl rfl) ?_
      refine TL_nil ?_
      refine TX_then ?_
      refine TC_cond rfl (fun h27 => ?_) (fun h27 => ?_)
      ·
        refine TC_seq ?_
        refine TC_reg ?_
        refine TL_q rfl rfl (QT_assign rfl rfl rfl) ?_
        refine TL_q rfl rfl (QT_assign rfl rfl rfl) ?_
        refine TL_nil ?_
        refine TX_then ?_
        refine TC_ret ?_
        refine TX_block_ret ?_
        refine TX_then_ret ?_
        have hb : headBad rs := by
          simp only [Bool.and_eq_true, decide_eq_true_eq] at h27
          cases rs with
          | nil => simp at h27
          | cons x v =>
            have : at7 (x :: v) 0 = x := rfl
            rw [this] at h27
            intro h0
            rw [h0] at h27
            simp at h27
        rw [trio6 hk h4 hb]
        exact TX_ret (.inl rfl) (res2 rfl rfl rfl) ⟨_, ⟨_, [], rfl, Frag.nil _ _, Hc, rfl⟩, fun _ h => h.tail⟩
      ·
        refine TC_skip ?_
        refine TX_block_normal ?_
        refine TX_then ?_
        refine TC_seq ?_
        have hb : ¬headBad rs := by
          simp only [Bool.and_eq_false_iff, decide_eq_false_iff_not] at h27
          cases rs with
          | nil => exact id
          | cons x v =>
            have : at7 (x :: v) 0 = x := rfl
            rw [this] at h27
            intro h0
            simp only [List.length_cons] at h27
            have h0' : flagR x ≠ 0 := h0
            omega
        rw [trioS hk h4 hb]
        refine TC_A (St w0 (Hc ++ η)) (fun _ h => h.tail) ?_
        refine TC_reg ?_
        refine TL_q rfl rfl (QT_move rfl rfl rfl) ?_
        refine TL_e rfl rfl rfl (rfl) (ET_call rfl YtjdaglmkljbfkaaGreatDoorF.cal_120 rfl (strip_spec w0 _ _ rs hsc ha (by omega))) ?_
        rintro _ _ ⟨pv, Hr, rfl, hFr, rfl⟩
        refine TL_q rfl rfl (QT_extract rfl rfl rfl rfl) ?_
        refine TL_q rfl rfl (QT_extract rfl rfl rfl rfl) ?_
        refine TL_q rfl rfl (QT_assign rfl rfl rfl) ?_
        refine TL_q rfl rfl (QT_assign rfl rfl rfl) ?_
        refine TL_nil ?_
        refine TX_then ?_
        refine TC_ret ?_
        exact TX_ret (.inl rfl) (res2 rfl rfl rfl) ⟨_, ⟨pv, Hr, rfl, hFr, Hc, rfl⟩, fun _ h => h⟩
end Go.Proofs.YtjdaglmkljbfkaaGreatDoor
namespace Go.Proofs.YtjdaglmkljbfkaaGreatDoor
open Go Go.Gx Go.RowKit
set_option maxRecDepth 100000

structure Rst (rs : List R) (FIN : List R × Int) (i : Nat) (a b c : R) (out : List R) (fv : Value) (H : Heap) (f : Nat) : Prop where
  le : i ≤ rs.length
  ia : Ints recK a
  ib : Ints recK b
  ic : Ints recK c
  fr : Frag 79 21 fv out.length out.flatten H
  few : out.length ≤ i
  last : 0 < i → ∃ pre, out = pre ++ [B3 a b c] ∧ ∀ t ∈ pre, t.length = 21
  fin : stripF f (rs.drop i) a b c out = FIN
  fuel : rs.length - i < f
theorem Rst.all {rs : List R} {FIN : List R × Int} {i : Nat} {a b c : R} {out : List R} {fv : Value} {H : Heap} {f : Nat} (h : Rst rs FIN i a b c out fv H f) (h0 : out.length ≤ i) (hz : i = 0 → out = []) : ∀ t ∈ out, t.length = 21 := by
  intro t ht
  by_cases hi : i = 0
  · rw [hz hi] at ht; exact absurd ht List.not_mem_nil
  · obtain ⟨pre, rfl, hp⟩ := h.last (by omega)
    rcases List.mem_append.1 ht with ht | ht
    · exact hp t ht
    · cases List.mem_singleton.1 ht
      exact (B3_ints h.ia h.ib h.ic).length
theorem drop_at7 {rs : List R} {i : Nat} (h : i < rs.length) : rs.drop i = at7 rs i :: rs.drop (i + 1) := by
  rw [List.drop_eq_getElem_cons h]
  have := at7_some h
  rw [List.getElem?_eq_getElem h] at this
  rw [Option.some.inj this]
theorem strips_nil {f : Nat} {a b c : R} {out : List R} : stripF f [] a b c out = (out, 0) := by cases f <;> rfl
theorem rec_flag {rs : List R} {i : Nat} (ha : All7 rs) (h : i < rs.length) : rs.flatten[i * 7]? = some (.int .u8 (flagR (at7 rs i) : Int)) := by
  obtain ⟨f1, g1⟩ := flat_at7 ha h
  have h1 := (flagR_spec (at7_ints ha h)).1
  rw [← f1, List.getElem?_take_of_lt (by omega), List.getElem?_drop] at h1
  rw [f1] at h1
  simpa using h1
theorem last_at {pre : List R} {t : R} {rest : List Value} (hp : ∀ t ∈ pre, t.length = 21) (ht : t.length = 21) : (((pre ++ [t]).flatten ++ rest).drop (((pre ++ [t]).length - 1) * 21)).take 21 = t ∧ ((pre ++ [t]).length - 1) * 21 + 21 ≤ ((pre ++ [t]).flatten ++ rest).length := by
  have hl := flat_len hp
  have e : ((pre ++ [t]).flatten ++ rest) = pre.flatten ++ (t ++ rest) := by simp
  rw [e, show (pre ++ [t]).length - 1 = pre.length by simp, ← hl]
  constructor
  · rw [List.drop_left, ← ht, List.take_left]
  · simp [ht]

set_option maxHeartbeats 1000000 in
theorem rof_spec (w0 : Base) (η : Heap) (L : Lay) (sv : Value) (rs : List R) (hs : SlA (St w0 η) sv 7 rs.length rs.flatten) (ha : All7 rs) (hn : rs.length * 120 ≤ 140737488355328) :
    CallsT Tryz.prog 83 [L.val, sv] (St w0 η) fun v A' => ∃ pv H, v = .tuple #[pv, .int .i64 (trioF L rs).2] ∧ Frag 79 21 pv (trioF L rs).1.length (trioF L rs).1.flatten H ∧ A' = St w0 (H ++ η) := by
  obtain ⟨_, ad, cap, sb, so, rfl, hcap, had, hrd⟩ := hs.some
  have hz7 : ∀ {x : R}, Ints recK x → Sz Tryz.prog 77 x.length := fun h => by rw [h.length]; exact YtjdaglmkljbfkaaGreatDoorF.sz_77
  refine CallsT.body Tryz.func83 rfl rfl ?_
  simp only [Tryz.ntmps83, slotsOf, Nat.reduceAdd]
  refine TC_seq ?_
  refine TC_reg ?_
  refine TL_e rfl rfl rfl (rfl) (ET_box rfl rfl) ?_
  rintro _ _ ⟨b2, rfl, rfl⟩
  refine TL_q rfl rfl (QT_assign rfl rfl rfl) ?_
  refine TL_q rfl rfl (QT_assign rfl rfl rfl) ?_
  refine TL_nil ?_
  refine TX_then ?_
  refine TC_seq ?_
  refine TC_seq ?_
  refine TC_reg ?_
  refine TL_q rfl rfl (QT_loadW 0 rfl rfl Tryz.underlying27 rfl rfl rfl YtjdaglmkljbfkaaGreatDoorF.sz_27) ?_
  refine TL_cq rfl rfl rfl rfl YtjdaglmkljbfkaaGreatDoorF.cal_28 rfl (fun _ => rcheck_spec w0 _ L) ?_
  refine TL_q rfl rfl (QT_neq rfl rfl rfl rfl) ?_
  refine TL_q rfl rfl (QT_move rfl rfl rfl) ?_
  refine TL_q rfl rfl (QT_field rfl rfl YtjdaglmkljbfkaaGreatDoorF.fld_27_0 rfl) ?_
  refine TL_q rfl rfl (QT_load 0 rfl rfl Tryz.underlying3 rfl rfl rfl (fun _ => rfl)) ?_
  refine TL_q rfl rfl (QT_neq rfl rfl rfl rfl) ?_
  refine TL_q rfl rfl (QT_move rfl rfl rfl) ?_
  refine TL_q rfl rfl (QT_field rfl rfl YtjdaglmkljbfkaaGreatDoorF.fld_27_0 rfl) ?_
  refine TL_q rfl rfl (QT_load 0 rfl rfl Tryz.underlying3 rfl rfl rfl (fun _ => rfl)) ?_
  refine TL_q rfl rfl (QT_neq rfl rfl rfl rfl) ?_
  refine TL_q rfl rfl (QT_and rfl rfl rfl rfl) ?_
  refine TL_q rfl rfl (QT_or rfl rfl rfl rfl) ?_
  refine TL_nil ?_
  refine TX_then ?_
  refine TC_cond rfl (fun h23 => ?_) (fun h23 => ?_)
  ·
    refine TC_seq ?_
    refine TC_reg ?_
    refine TL_q rfl rfl (QT_assign rfl rfl rfl) ?_
    refine TL_q rfl rfl (QT_assign rfl rfl rfl) ?_
    refine TL_nil ?_
    refine TX_then ?_
    refine TC_ret ?_
    refine TX_then_ret ?_
    rw [trio4 (by
      simp only [Bool.or_eq_true, Bool.and_eq_true, decide_eq_true_eq] at h23
      rintro ⟨h1, h2⟩
      simp [errOf, h1] at h23
      omega)]
    exact TX_ret (.inl rfl) (res2 rfl rfl rfl) ⟨_, ⟨_, [], rfl, Frag.nil _ _, rfl⟩, fun _ h => h.tail⟩
  ·
    refine TC_skip ?_
    refine TX_then ?_
    refine TC_seq ?_
    refine TC_seq ?_
    simp only [Bool.or_eq_false_iff, Bool.and_eq_false_iff, decide_eq_false_iff_not] at h23
    have hk : okB L = true := ok_of h23.1
    have hty := (okB_bounds hk).2.2.2.1
    refine TC_reg ?_
    refine TL_q rfl rfl (QT_field rfl rfl YtjdaglmkljbfkaaGreatDoorF.fld_27_0 rfl) ?_
    refine TL_q rfl rfl (QT_load 0 rfl rfl Tryz.underlying3 rfl rfl rfl (fun _ => rfl)) ?_
    refine TL_q rfl rfl (QT_eql rfl rfl rfl rfl) ?_
    refine TL_nil ?_
    refine TX_then ?_
    refine TC_cond_dec rfl (fun h26 => ?_) (fun h26 => ?_)
    ·
      refine TC_seq ?_
      have h5 : L.ty = 5 := by simpa using h26
      have hro := (okB_bounds hk).2.2.2.2.1 h5
      rw [trio5 hk h5]
      have her : L.ro = ((L.ro.toNat : Nat) : Int) := by omega
      refine TC_reg ?_
      refine TL_q rfl rfl (QT_move rfl rfl rfl) ?_
      refine TL_q rfl rfl (QT_field rfl rfl YtjdaglmkljbfkaaGreatDoorF.fld_27_5 rfl) ?_
      refine TL_q rfl rfl (QT_load 0 rfl rfl Tryz.underlying3 rfl rfl rfl (fun _ => rfl)) ?_
      refine TL_A (St w0 η) (fun _ h => h.tail) ?_
      refine TL_e rfl rfl rfl (rfl) (ET_call rfl YtjdaglmkljbfkaaGreatDoorF.cal_125 rfl (cells_at her w0 _ _ rs hs ha (by omega) hn)) ?_
      rintro _ _ ⟨pv, Hr, rfl, hFr, rfl⟩
      refine TL_q rfl rfl (QT_extract rfl rfl rfl rfl) ?_
      refine TL_q rfl rfl (QT_extract rfl rfl rfl rfl) ?_
      refine TL_q rfl rfl (QT_assign rfl rfl rfl) ?_
      refine TL_q rfl rfl (QT_assign rfl rfl rfl) ?_
      refine TL_nil ?_
      refine TX_then ?_
      refine TC_ret ?_
      refine TX_then_ret ?_
      exact TX_ret (.inl rfl) (res2 rfl rfl rfl) ⟨_, ⟨pv, Hr, rfl, hFr, rfl⟩, fun _ h => h⟩
    ·
      refine TC_skip ?_
      refine TX_then ?_
      refine TC_seq ?_
      have h4 : L.ty = 4 := by
        have : L.ty ≠ 5 := by simpa using h26
        omega
      refine TC_A (St w0 η) (fun _ h => h.tail) ?_
      obtain ⟨FIN, hFIN⟩ : ∃ F, F = strips rs := ⟨_, rfl⟩
      refine TC_reg ?_
      refine TL_q rfl rfl (QT_assign rfl rfl rfl) ?_
      refine TL_nil ?_
      refine TX_then ?_
      refine TC_seq ?_
      refine TC_seq ?_
      refine TC_reg ?_
      refine TL_q rfl rfl (QT_assign rfl rfl rfl) ?_
      refine TL_nil ?_
      refine TX_then ?_
      refine TC_block ?_
      refine TC_loop (γ := { t : Nat × R × R × R × List R × Value × Heap × Nat // Rst rs FIN t.1 t.2.1 t.2.2.1 t.2.2.2.1 t.2.2.2.2.1 t.2.2.2.2.2.1 t.2.2.2.2.2.2.1 t.2.2.2.2.2.2.2 ∧ (0 < t.1 → ¬headBad rs) ∧ (t.1 = 0 → t.2.2.2.2.1 = []) }) (fun t => [(1, true, .slice ad rs.length cap), (6, true, t.1.2.2.2.2.2.1), (7, true, .int .i64 (t.1.1 : Int))]) (fun t => St w0 (t.1.2.2.2.2.2.2.1 ++ η)) (fun t => rs.length - t.1.1) ⟨(0, zR, zR, zR, [], .slice none 0 0, [], rs.length + 1), ⟨Nat.zero_le _, zR_ints, zR_ints, zR_ints, Frag.nil _ _, Nat.le_refl _, fun h => absurd h (Nat.lt_irrefl _), hFIN.symm, Nat.lt_succ_of_le (Nat.sub_le _ _)⟩, fun h => absurd h (Nat.lt_irrefl _), fun _ => rfl⟩ ⟨rfl, rfl, rfl, trivial⟩ (fun _ h => h) ?_
      rintro ⟨⟨i, a, b, c, out, fv, H, f⟩, hS, hhb, hz0⟩
      dsimp only at hS hhb hz0 ⊢
      have hall := hS.all hS.few hz0
      obtain ⟨hle, hia, hib, hic, hfr, hfew, hlast, hfin, hfuel⟩ := hS
      refine TC_seq ?_
      refine TC_seq ?_
      refine TC_reg ?_
      refine TL_q rfl rfl (QT_move rfl rfl rfl) ?_
      refine TL_q rfl rfl (QT_move rfl rfl rfl) ?_
      refine TL_q rfl rfl (QT_len rfl rfl Tryz.underlying31 rfl) ?_
      refine TL_q rfl rfl (QT_lss rfl rfl rfl rfl) ?_
      refine TL_nil ?_
      refine TX_then ?_
      refine TC_cond_dec rfl (fun h36 => ?_) (fun h36 => ?_)
      ·
        have hi : i < rs.length := by omega
        have hx := at7_ints ha hi
        obtain ⟨f1, g1⟩ := flat_at7 ha hi
        have hfx := (flagR_spec hx).2
        have hrf := rec_flag ha hi
        have hdr := drop_at7 hi
        rw [hdr] at hfin
        obtain ⟨f, rfl⟩ : ∃ g, f = g + 1 := ⟨f - 1, by omega⟩
        have hhead : i = 0 → (headBad rs ↔ flagR (at7 rs i) ≠ 0) := by
          rintro rfl
          rw [List.drop_zero] at hdr
          rw [hdr]; exact Iff.rfl
        have hxl : (at7 rs i).length = 7 := hx.length
        obtain ⟨x, hxe⟩ : ∃ x, x = at7 rs i := ⟨_, rfl⟩
        rw [← hxe] at hx f1 hfx hrf hdr hfin hhead hxl
        have hbx := bareR_ints hx
        refine TC_skip ?_
        refine TX_then ?_
        refine TC_cut (γ := { t : Nat × R × R × R × List R × Value × Heap × Nat // i ≤ t.1 ∧ Rst rs FIN (t.1 + 1) t.2.1 t.2.2.1 t.2.2.2.1 t.2.2.2.2.1 t.2.2.2.2.2.1 t.2.2.2.2.2.2.1 t.2.2.2.2.2.2.2 ∧ ¬headBad rs }) (fun t => [(1, true, .slice ad rs.length cap), (6, true, t.1.2.2.2.2.2.1), (7, true, .int .i64 (t.1.1 : Int))]) (fun t => St w0 (t.1.2.2.2.2.2.2.1 ++ η)) ?_ ?_
        ·
          refine TC_block ?_
          refine TC_seq ?_
          refine TC_reg ?_
          refine TL_q rfl rfl (QT_move rfl rfl rfl) ?_
          refine TL_q rfl rfl (QT_move rfl rfl rfl) ?_
          refine TL_q rfl rfl (QT_indexG i rfl rfl Tryz.underlying31 YtjdaglmkljbfkaaGreatDoorF.sz_77 rfl rfl rfl (fun _ => hi) (fun _ => had (by omega))) ?_
          refine TL_q rfl rfl (QT_field rfl rfl YtjdaglmkljbfkaaGreatDoorF.fld_77_0 rfl) ?_
          refine TL_q rfl rfl (QT_loadRj (v := .int .u8 (flagR x : Int)) (i * 7) rfl rfl Tryz.underlying5 rfl (hrd.deep (by intro _ hw; first | exact hw | exact hw.app_right | exact hw.app_right.app_right | exact hw.tail | exact hw.tail.app_right | exact hw.tail.tail | exact hw.tail.tail.app_right | exact hw.tail.tail.tail | exact hw.tail.tail.tail.app_right | exact hw.tail.tail.tail.tail | exact hw.tail.tail.tail.tail.app_right | exact hw.tail.tail.tail.tail.tail | exact hw.tail.tail.tail.tail.tail.app_right | exact hw.tail.tail.tail.tail.tail.tail | exact hw.tail.tail.tail.tail.tail.tail.app_right)) rfl (fun _ => hrf)) ?_
          refine TL_q rfl rfl (QT_assign rfl rfl rfl) ?_
          refine TL_nil ?_
          refine TX_then ?_
          refine TC_seq ?_
          refine TC_seq ?_
          refine TC_reg ?_
          refine TL_q rfl rfl (QT_move rfl rfl rfl) ?_
          refine TL_q rfl rfl (QT_eql rfl rfl rfl rfl) ?_
          refine TL_q rfl rfl (QT_move rfl rfl rfl) ?_
          refine TL_q rfl rfl (QT_move rfl rfl rfl) ?_
          refine TL_q rfl rfl (QT_neq rfl rfl rfl rfl) ?_
          refine TL_q rfl rfl (QT_and rfl rfl rfl rfl) ?_
          refine TL_nil ?_
          refine TX_then ?_
          refine TC_cond rfl (fun h49 => ?_) (fun h49 => ?_)
          ·
            refine TC_seq ?_
            refine TC_reg ?_
            refine TL_q rfl rfl (QT_assign rfl rfl rfl) ?_
            refine TL_q rfl rfl (QT_assign rfl rfl rfl) ?_
            refine TL_nil ?_
            refine TX_then ?_
            refine TC_ret ?_
            refine TX_then_ret ?_
            refine TX_block_ret ?_
            refine TX_then_ret ?_
            refine TX_then_ret ?_
            refine TX_block_ret ?_
            refine TX_then_ret ?_
            simp only [Bool.and_eq_true, decide_eq_true_eq] at h49
            have hi0 : i = 0 := by omega
            rw [trio6 hk h4 ((hhead hi0).2 (by omega))]
            exact TX_ret (.inl rfl) (res2 rfl rfl rfl) ⟨_, ⟨_, [], rfl, Frag.nil _ _, rfl⟩, fun _ h => h.app_right⟩
          ·
            refine TC_skip ?_
            refine TX_then ?_
            refine TC_seq ?_
            refine TC_seq ?_
            have hnb : ¬headBad rs := by
              by_cases hi0 : i = 0
              · rw [hhead hi0]
                simp only [Bool.and_eq_false_iff, decide_eq_false_iff_not] at h49
                omega
              · exact hhb (by omega)
            have hFe : trioF L rs = FIN := by rw [hFIN]; exact trioS hk h4 hnb
            have hpos : flagR x ≠ 0 → 0 < i := by
              intro h
              simp only [Bool.and_eq_false_iff, decide_eq_false_iff_not] at h49
              omega
            refine TC_reg ?_
            refine TL_q rfl rfl (QT_move rfl rfl rfl) ?_
            refine TL_q rfl rfl (QT_gtr rfl rfl rfl rfl) ?_
            refine TL_nil ?_
            refine TX_then ?_
            refine TC_cond_dec rfl (fun h51 => ?_) (fun h51 => ?_)
            ·
              refine TC_seq ?_
              refine TC_reg ?_
              refine TL_q rfl rfl (QT_assign rfl rfl rfl) ?_
              refine TL_q rfl rfl (QT_assign rfl rfl rfl) ?_
              refine TL_nil ?_
              refine TX_then ?_
              refine TC_ret ?_
              refine TX_then_ret ?_
              refine TX_block_ret ?_
              refine TX_then_ret ?_
              refine TX_then_ret ?_
              refine TX_block_ret ?_
              refine TX_then_ret ?_
              rw [hFe, ← hfin, strip_bad (by omega) (by omega) (by omega)]
              exact TX_ret (.inl rfl) (res2 rfl rfl rfl) ⟨_, ⟨_, [], rfl, Frag.nil _ _, rfl⟩, fun _ h => h.app_right⟩
            ·
              refine TC_skip ?_
              refine TX_then ?_
              refine TC_seq ?_
              refine TC_seq ?_
              refine TC_reg ?_
              refine TL_q rfl rfl (QT_move rfl rfl rfl) ?_
              refine TL_q rfl rfl (QT_eql rfl rfl rfl rfl) ?_
              refine TL_nil ?_
              refine TX_then ?_
              refine TC_cond_dec rfl (fun h53 => ?_) (fun h53 => ?_)
              ·
                refine TC_seq ?_
                refine TC_seq ?_
                refine TC_reg ?_
                refine TL_q rfl rfl (QT_move rfl rfl rfl) ?_
                refine TL_q rfl rfl (QT_add rfl rfl rfl rfl (fun _ => ⟨by omega, by omega⟩)) ?_
                refine TL_q rfl rfl (QT_move rfl rfl rfl) ?_
                refine TL_q rfl rfl (QT_len rfl rfl Tryz.underlying31 rfl) ?_
                refine TL_q rfl rfl (QT_geq rfl rfl rfl rfl) ?_
                refine TL_nil ?_
                refine TX_then ?_
                refine TC_cond_dec rfl (fun h58 => ?_) (fun h58 => ?_)
                ·
                  refine TC_seq ?_
                  refine TC_reg ?_
                  refine TL_q rfl rfl (QT_assign rfl rfl rfl) ?_
                  refine TL_q rfl rfl (QT_assign rfl rfl rfl) ?_
                  refine TL_nil ?_
                  refine TX_then ?_
                  refine TC_ret ?_
                  refine TX_then_ret ?_
                  refine TX_then_ret ?_
                  refine TX_block_ret ?_
                  refine TX_then_ret ?_
                  refine TX_then_ret ?_
                  refine TX_block_ret ?_
                  refine TX_then_ret ?_
                  rw [hFe, ← hfin, strip_short (by omega) (by rw [List.length_drop]; omega)]
                  exact TX_ret (.inl rfl) (res2 rfl rfl rfl) ⟨_, ⟨_, [], rfl, Frag.nil _ _, rfl⟩, fun _ h => h.app_right⟩
                ·
                  refine TC_skip ?_
                  refine TX_then ?_
                  refine TC_seq ?_
                  have hi1 : i + 1 < rs.length := by omega
                  have hi2 : i + 2 < rs.length := by omega
                  obtain ⟨f2, g2⟩ := flat_at7 ha hi1
                  obtain ⟨f3, g3⟩ := flat_at7 ha hi2
                  have hy := at7_ints ha hi1
                  have hz := at7_ints ha hi2
                  rw [drop_at7 hi1, drop_at7 hi2, strip_long (by omega)] at hfin
                  generalize at7 rs (i + 1) = y at *
                  generalize at7 rs (i + 2) = z at *
                  have hby := bareR_ints hy
                  have hbz := bareR_ints hz
                  have b1 := B3_ints hx hy hz
                  refine TC_draw [(0, 0), (1, 0), (2, 0), (3, 0), (4, 0), (6, 0), (7, 0), (8, 0), (9, 0), (10, 0), (12, 0), (13, 0), (14, 0), (15, 0), (16, 0), (5, 1), (11, 1), (17, 1), (18, 0), (19, 1), (20, 1), (21, 0)] YtjdaglmkljbfkaaGreatDoorF.mixed (by kernel_rfl) (St.calm _ _) ?_
                  refine TV_q rfl rfl rfl (fun _ => QT_move rfl rfl rfl) ?_
                  refine TV_q rfl rfl rfl (fun _ => QT_move rfl rfl rfl) ?_
                  refine TV_q rfl rfl rfl (fun _ => QT_move rfl rfl rfl) ?_
                  refine TV_q rfl rfl rfl (fun _ => QT_indexG i rfl rfl Tryz.underlying31 YtjdaglmkljbfkaaGreatDoorF.sz_77 rfl rfl rfl (fun _ => hi) (fun _ => had (by omega))) ?_
                  refine TV_ql rfl rfl rfl (QT_loadRAj (out := x) (i * 7) rfl rfl Tryz.underlying77 rfl YtjdaglmkljbfkaaGreatDoorF.sz_77 (hrd.deep (by intro _ hw; first | exact hw | exact hw.app_right | exact hw.app_right.app_right | exact hw.tail | exact hw.tail.app_right | exact hw.tail.tail | exact hw.tail.tail.app_right | exact hw.tail.tail.tail | exact hw.tail.tail.tail.app_right | exact hw.tail.tail.tail.tail | exact hw.tail.tail.tail.tail.app_right | exact hw.tail.tail.tail.tail.tail | exact hw.tail.tail.tail.tail.tail.app_right | exact hw.tail.tail.tail.tail.tail.tail | exact hw.tail.tail.tail.tail.tail.tail.app_right)) rfl (fun _ => g1) (fun _ => f1)) ?_
                  refine TV_q rfl rfl rfl (fun _ => QT_move rfl rfl rfl) ?_
                  refine TV_q rfl rfl rfl (fun _ => QT_move rfl rfl rfl) ?_
                  refine TV_q rfl rfl rfl (fun _ => QT_add rfl rfl rfl rfl (fun _ => ⟨by omega, by omega⟩)) ?_
                  refine TV_q rfl rfl rfl (fun _ => QT_indexG (i + 1) rfl rfl Tryz.underlying31 YtjdaglmkljbfkaaGreatDoorF.sz_77 rfl rfl rfl (fun _ => hi1) (fun _ => had (by omega))) ?_
                  refine TV_ql rfl rfl rfl (QT_loadRAj (out := y) ((i + 1) * 7) rfl rfl Tryz.underlying77 rfl YtjdaglmkljbfkaaGreatDoorF.sz_77 (hrd.deep (by intro _ hw; first | exact hw | exact hw.app_right | exact hw.app_right.app_right | exact hw.tail | exact hw.tail.app_right | exact hw.tail.tail | exact hw.tail.tail.app_right | exact hw.tail.tail.tail | exact hw.tail.tail.tail.app_right | exact hw.tail.tail.tail.tail | exact hw.tail.tail.tail.tail.app_right | exact hw.tail.tail.tail.tail.tail | exact hw.tail.tail.tail.tail.tail.app_right | exact hw.tail.tail.tail.tail.tail.tail | exact hw.tail.tail.tail.tail.tail.tail.app_right)) rfl (fun _ => g2) (fun _ => f2)) ?_
                  refine TV_q rfl rfl rfl (fun _ => QT_move rfl rfl rfl) ?_
                  refine TV_q rfl rfl rfl (fun _ => QT_move rfl rfl rfl) ?_
                  refine TV_q rfl rfl rfl (fun _ => QT_add rfl rfl rfl rfl (fun _ => ⟨by omega, by omega⟩)) ?_
                  refine TV_q rfl rfl rfl (fun _ => QT_indexG (i + 2) rfl rfl Tryz.underlying31 YtjdaglmkljbfkaaGreatDoorF.sz_77 rfl rfl rfl (fun _ => hi2) (fun _ => had (by omega))) ?_
                  refine TV_ql rfl rfl rfl (QT_loadRAj (out := z) ((i + 2) * 7) rfl rfl Tryz.underlying77 rfl YtjdaglmkljbfkaaGreatDoorF.sz_77 (hrd.deep (by intro _ hw; first | exact hw | exact hw.app_right | exact hw.app_right.app_right | exact hw.tail | exact hw.tail.app_right | exact hw.tail.tail | exact hw.tail.tail.app_right | exact hw.tail.tail.tail | exact hw.tail.tail.tail.app_right | exact hw.tail.tail.tail.tail | exact hw.tail.tail.tail.tail.app_right | exact hw.tail.tail.tail.tail.tail | exact hw.tail.tail.tail.tail.tail.app_right | exact hw.tail.tail.tail.tail.tail.tail | exact hw.tail.tail.tail.tail.tail.tail.app_right)) rfl (fun _ => g3) (fun _ => f3)) ?_
                  refine TV_cq rfl rfl rfl rfl rfl YtjdaglmkljbfkaaGreatDoorF.cal_126 rfl (fun _ => plain_spec w0 _ x hx) (.keep (by kernel_rfl) rfl (by first | exact QT_loadRAj (out := z) ((i + 2) * 7) rfl rfl Tryz.underlying77 rfl YtjdaglmkljbfkaaGreatDoorF.sz_77 (hrd.deep (by intro _ hw; first | exact hw | exact hw.app_right | exact hw.app_right.app_right | exact hw.tail | exact hw.tail.app_right | exact hw.tail.tail | exact hw.tail.tail.app_right | exact hw.tail.tail.tail | exact hw.tail.tail.tail.app_right | exact hw.tail.tail.tail.tail | exact hw.tail.tail.tail.tail.app_right | exact hw.tail.tail.tail.tail.tail | exact hw.tail.tail.tail.tail.tail.app_right | exact hw.tail.tail.tail.tail.tail.tail | exact hw.tail.tail.tail.tail.tail.tail.app_right)) rfl (fun _ => g3) (fun _ => f3)) (.keep (by kernel_rfl) rfl (by first | exact QT_loadRAj (out := y) ((i + 1) * 7) rfl rfl Tryz.underlying77 rfl YtjdaglmkljbfkaaGreatDoorF.sz_77 (hrd.deep (by intro _ hw; first | exact hw | exact hw.app_right | exact hw.app_right.app_right | exact hw.tail | exact hw.tail.app_right | exact hw.tail.tail | exact hw.tail.tail.app_right | exact hw.tail.tail.tail | exact hw.tail.tail.tail.app_right | exact hw.tail.tail.tail.tail | exact hw.tail.tail.tail.tail.app_right | exact hw.tail.tail.tail.tail.tail | exact hw.tail.tail.tail.tail.tail.app_right | exact hw.tail.tail.tail.tail.tail.tail | exact hw.tail.tail.tail.tail.tail.tail.app_right)) rfl (fun _ => g2) (fun _ => f2)) (.drop (by kernel_rfl) (.nil)))) ?_
                  refine TV_cq rfl rfl rfl rfl rfl YtjdaglmkljbfkaaGreatDoorF.cal_126 rfl (fun _ => plain_spec w0 _ y hy) (.keep (by kernel_rfl) rfl (by first | exact QT_loadRAj (out := z) ((i + 2) * 7) rfl rfl Tryz.underlying77 rfl YtjdaglmkljbfkaaGreatDoorF.sz_77 (hrd.deep (by intro _ hw; first | exact hw | exact hw.app_right | exact hw.app_right.app_right | exact hw.tail | exact hw.tail.app_right | exact hw.tail.tail | exact hw.tail.tail.app_right | exact hw.tail.tail.tail | exact hw.tail.tail.tail.app_right | exact hw.tail.tail.tail.tail | exact hw.tail.tail.tail.tail.app_right | exact hw.tail.tail.tail.tail.tail | exact hw.tail.tail.tail.tail.tail.app_right | exact hw.tail.tail.tail.tail.tail.tail | exact hw.tail.tail.tail.tail.tail.tail.app_right)) rfl (fun _ => g3) (fun _ => f3)) (.drop (by kernel_rfl) (.nil))) ?_
                  refine TV_cq rfl rfl rfl rfl rfl YtjdaglmkljbfkaaGreatDoorF.cal_126 rfl (fun _ => plain_spec w0 _ z hz) (.drop (by kernel_rfl) (.nil)) ?_
                  refine TV_q rfl rfl rfl (fun _ => QT_buildArr (out := B3 x y z) rfl rfl YtjdaglmkljbfkaaGreatDoorF.zero_79 Tryz.underlying79 YtjdaglmkljbfkaaGreatDoorF.sz_77 rfl rfl (seg3 hbx.length hby.length hbz.length rfl)) ?_
                  refine TV_e rfl rfl rfl rfl (rfl) (ET_buildN [_] rfl Tryz.underlying61 YtjdaglmkljbfkaaGreatDoorF.sz_79 YtjdaglmkljbfkaaGreatDoorF.zero_79 rfl rfl rfl (fun v hv => by cases List.mem_singleton.1 hv; exact b1.length)) ?_
                  rintro _ _ ⟨b78, rfl, rfl⟩
                  refine ⟨_, .nil, ?_⟩
                  refine TV_e rfl rfl rfl rfl (rfl) (ET_appendL (L := [_]) rfl Tryz.underlying61 el_Tri rfl rfl hfr (fun _ h => h) (SlA.own (n := 1) (xs := B3 x y z) 0 rfl (one_own b1.length).symm (one_len b1.length) (by omega)) b1.oneCell (by omega) (by omega)) ?_
                  rintro fv2 _ ⟨H2, hF2, rfl⟩
                  refine ⟨_, .nil, ?_⟩
                  refine TV_q rfl rfl rfl (fun _ => QT_assign rfl rfl rfl) ?_
                  refine TV_end ?_
                  refine TX_then ?_
                  refine TC_seq ?_
                  refine TC_reg ?_
                  refine TL_q rfl rfl (QT_move rfl rfl rfl) ?_
                  refine TL_q rfl rfl (QT_add rfl rfl rfl rfl (fun _ => ⟨by omega, by omega⟩)) ?_
                  refine TL_q rfl rfl (QT_assign rfl rfl rfl) ?_
                  refine TL_nil ?_
                  refine TX_then ?_
                  refine TC_exit ?_
                  refine TX_then_exit ?_
                  refine TX_block_here ?_
                  exact TX_cut ⟨(i + 2, x, y, z, out ++ [B3 x y z], fv2, H2, f), by show i ≤ i + 2; omega, ⟨by show i + 2 + 1 ≤ rs.length; omega, hx, hy, hz, by rw [List.length_append, flatten_snoc]; exact hF2, by rw [List.length_append]; show _ + 1 ≤ _; omega, fun _ => ⟨out, rfl, hall⟩, hfin, by show rs.length - (i + 2 + 1) < f; omega⟩, hnb⟩ ⟨rfl, rfl, rfl, trivial⟩ (fun _ h => h.app_right (X := [_]))
              ·
                refine TC_skip ?_
                refine TX_then ?_
                refine TC_seq ?_
                have hip : 0 < i := hpos (by omega)
                obtain ⟨pre, hpe, hpl⟩ := hlast hip
                have hb0 := B3_ints hia hib hic
                have hfr0 := hfr
                obtain ⟨ad2, cap2, rfl, hcap2, hsl⟩ := hfr.slice
                obtain ⟨b2, rest, rfl, rfl⟩ := hsl (by rw [hpe]; simp)
                obtain ⟨q1, q2⟩ := last_at (rest := rest) hpl hb0.length
                rw [← hpe] at q1 q2
                have hol : 0 < out.length := by rw [hpe]; simp
                obtain ⟨p0, p1, p2⟩ := T3_at (bareR_ints hia).length (bareR_ints hib).length (bareR_ints hic).length
                have hTl : (B3 a b c).length = 21 := hb0.length
                have htz : Sz Tryz.prog 79 (B3 a b c).length := by rw [hTl]; exact YtjdaglmkljbfkaaGreatDoorF.sz_79
                refine TC_reg ?_
                refine TL_q rfl rfl (QT_move rfl rfl rfl) ?_
                refine TL_q rfl rfl (QT_move rfl rfl rfl) ?_
                refine TL_q rfl rfl (QT_len rfl rfl Tryz.underlying61 rfl) ?_
                refine TL_q rfl rfl (QT_sub rfl rfl rfl rfl (fun _ => ⟨by omega, by omega⟩)) ?_
                refine TL_q rfl rfl (QT_indexG (out.length - 1) rfl rfl Tryz.underlying61 YtjdaglmkljbfkaaGreatDoorF.sz_79 rfl rfl (by omega) (fun _ => by omega) (fun _ => rfl)) ?_
                refine TL_q rfl rfl (QT_loadRAj (out := B3 a b c) ((out.length - 1) * 21) rfl rfl Tryz.underlying79 rfl YtjdaglmkljbfkaaGreatDoorF.sz_79 (Rd.own 0 rfl) rfl (fun _ => q2) (fun _ => q1)) ?_
                refine TL_e rfl rfl rfl (rfl) (ET_alloc rfl YtjdaglmkljbfkaaGreatDoorF.zero_79) ?_
                rintro _ _ ⟨b9, rfl, rfl⟩
                refine TL_e0 rfl rfl (rfl) (ET_storeW (vs := B3 a b c) 0 rfl rfl rfl htz rfl (List.all_eq_true.2 hb0.oneCell) (by rw [hTl]; rfl)) ?_
                rintro _ _ ⟨rfl, rfl⟩
                refine TL_nil ?_
                refine TX_then ?_
                refine TC_seq ?_
                refine TC_reg ?_
                refine TL_q rfl rfl (QT_indexArr (0) rfl rfl Tryz.underlying79 YtjdaglmkljbfkaaGreatDoorF.sz_77 rfl rfl (rfl) (fun _ => by decide)) ?_
                refine TL_q rfl rfl (QT_loadRAj (out := bareR a) (0 * 7) rfl rfl Tryz.underlying77 rfl YtjdaglmkljbfkaaGreatDoorF.sz_77 (Rd.own 0 rfl) rfl (fun _ => by rw [hTl]; decide) (fun _ => p0)) ?_
                refine TL_e rfl rfl rfl (rfl) (ET_alloc rfl YtjdaglmkljbfkaaGreatDoorF.zero_77) ?_
                rintro _ _ ⟨b10, rfl, rfl⟩
                refine TL_e0 rfl rfl (rfl) (ET_storeW (vs := bareR a) 0 rfl rfl rfl (hz7 (bareR_ints hia)) rfl (List.all_eq_true.2 (bareR_ints hia).oneCell) (by rw [(bareR_ints hia).length]; rfl)) ?_
                rintro _ _ ⟨rfl, rfl⟩
                refine TL_nil ?_
                refine TX_then ?_
                refine TC_cut (γ := { t : R // Ints recK t ∧ stripF f (rs.drop (i + 1)) t c x (out ++ [B3 t c x]) = FIN }) (fun t => [(1, true, .slice ad rs.length cap), (6, true, .slice (some ⟨b2, 0, none⟩) out.length cap2), (7, true, .int .i64 (i : Int)), (9, true, .pointer (some ⟨b9, 0, none⟩)), (10, true, .pointer (some ⟨b10, 0, none⟩))]) (fun t => St w0 ((b10, 77, bareR t.1) :: (b9, 79, B3 a b c) :: ([(b2, 79, out.flatten ++ rest)] ++ η))) ?_ ?_
                ·
                  refine TC_seq ?_
                  refine TC_reg ?_
                  refine TL_q rfl rfl (QT_move rfl rfl rfl) ?_
                  refine TL_q rfl rfl (QT_eql rfl rfl rfl rfl) ?_
                  refine TL_nil ?_
                  refine TX_then ?_
                  refine TC_cond_dec rfl (fun h91 => ?_) (fun h91 => ?_)
                  ·
                    refine TC_reg ?_
                    refine TL_q rfl rfl (QT_indexArr (1) rfl rfl Tryz.underlying79 YtjdaglmkljbfkaaGreatDoorF.sz_77 rfl rfl (rfl) (fun _ => by decide)) ?_
                    refine TL_q rfl rfl (QT_loadRAj (out := bareR b) (1 * 7) rfl rfl Tryz.underlying77 rfl YtjdaglmkljbfkaaGreatDoorF.sz_77 (Rd.own 1 rfl) rfl (fun _ => by rw [hTl]; decide) (fun _ => p1)) ?_
                    refine TL_e0 rfl rfl (rfl) (ET_storeW (vs := bareR b) 0 rfl rfl rfl (hz7 (bareR_ints hib)) rfl (List.all_eq_true.2 (bareR_ints hib).oneCell) (by rw [(bareR_ints hib).length, (bareR_ints hia).length]; rfl)) ?_
                    rintro _ _ ⟨rfl, rfl⟩
                    refine TL_nil ?_
                    exact TX_cut ⟨b, hib, by rw [← hfin, strip_one (by omega)]⟩ ⟨rfl, rfl, rfl, rfl, rfl, trivial⟩ (fun _ h => h)
                  ·
                    refine TC_skip ?_
                    exact TX_cut ⟨a, hia, by rw [← hfin, strip_two (by omega)]⟩ ⟨rfl, rfl, rfl, rfl, rfl, trivial⟩ (fun _ h => h)
                rintro ⟨t, hit, hfin2⟩
                dsimp only
                have hbt := bareR_ints hit
                have hbc := bareR_ints hic
                have b3 := B3_ints hit hic hx
                refine TC_draw [(0, 0), (1, 0), (2, 0), (3, 0), (4, 0), (5, 0), (6, 0), (7, 0), (8, 1), (9, 0), (10, 1), (11, 1), (12, 0)] YtjdaglmkljbfkaaGreatDoorF.mixed (by kernel_rfl) (St.calm _ _) ?_
                refine TV_q rfl rfl rfl (fun _ => QT_move rfl rfl rfl) ?_
                refine TV_ql rfl rfl rfl (QT_loadW (cs := bareR t) 0 rfl rfl Tryz.underlying77 rfl rfl rfl (hz7 hbt)) ?_
                refine TV_q rfl rfl rfl (fun _ => QT_indexArr (2) rfl rfl Tryz.underlying79 YtjdaglmkljbfkaaGreatDoorF.sz_77 rfl rfl (rfl) (fun _ => by decide)) ?_
                refine TV_ql rfl rfl rfl (QT_loadRAj (out := bareR c) (2 * 7) rfl rfl Tryz.underlying77 rfl YtjdaglmkljbfkaaGreatDoorF.sz_77 (Rd.own 1 rfl) rfl (fun _ => by rw [hTl]; decide) (fun _ => p2)) ?_
                refine TV_q rfl rfl rfl (fun _ => QT_move rfl rfl rfl) ?_
                refine TV_q rfl rfl rfl (fun _ => QT_move rfl rfl rfl) ?_
                refine TV_q rfl rfl rfl (fun _ => QT_indexG i rfl rfl Tryz.underlying31 YtjdaglmkljbfkaaGreatDoorF.sz_77 rfl rfl rfl (fun _ => hi) (fun _ => had (by omega))) ?_
                refine TV_ql rfl rfl rfl (QT_loadRAj (out := x) (i * 7) rfl rfl Tryz.underlying77 rfl YtjdaglmkljbfkaaGreatDoorF.sz_77 (hrd.deep (by intro _ hw; first | exact hw | exact hw.app_right | exact hw.app_right.app_right | exact hw.tail | exact hw.tail.app_right | exact hw.tail.tail | exact hw.tail.tail.app_right | exact hw.tail.tail.tail | exact hw.tail.tail.tail.app_right | exact hw.tail.tail.tail.tail | exact hw.tail.tail.tail.tail.app_right | exact hw.tail.tail.tail.tail.tail | exact hw.tail.tail.tail.tail.tail.app_right | exact hw.tail.tail.tail.tail.tail.tail | exact hw.tail.tail.tail.tail.tail.tail.app_right)) rfl (fun _ => g1) (fun _ => f1)) ?_
                refine TV_cq rfl rfl rfl rfl rfl YtjdaglmkljbfkaaGreatDoorF.cal_126 rfl (fun _ => plain_spec w0 _ x hx) (.drop (by kernel_rfl) (.keep (by kernel_rfl) rfl (by first | exact QT_loadRAj (out := bareR c) (2 * 7) rfl rfl Tryz.underlying77 rfl YtjdaglmkljbfkaaGreatDoorF.sz_77 (Rd.own 1 rfl) rfl (fun _ => by rw [hTl]; decide) (fun _ => p2) | exact QT_loadRAj (out := bareR c) (2 * 7) rfl rfl Tryz.underlying77 rfl YtjdaglmkljbfkaaGreatDoorF.sz_77 (Rd.own 2 rfl) rfl (fun _ => by rw [hTl]; decide) (fun _ => p2)) (.keep (by kernel_rfl) rfl (by first | exact QT_loadW (cs := bareR t) 0 rfl rfl Tryz.underlying77 rfl rfl rfl (hz7 hbt) | exact QT_loadW (cs := bareR t) 1 rfl rfl Tryz.underlying77 rfl rfl rfl (hz7 hbt)) (.nil)))) ?_
                refine TV_q rfl rfl rfl (fun _ => QT_buildArr (out := B3 t c x) rfl rfl YtjdaglmkljbfkaaGreatDoorF.zero_79 Tryz.underlying79 YtjdaglmkljbfkaaGreatDoorF.sz_77 rfl rfl (seg3 hbt.length hbc.length hbx.length rfl)) ?_
                refine TV_e rfl rfl rfl rfl (rfl) (ET_buildN [_] rfl Tryz.underlying61 YtjdaglmkljbfkaaGreatDoorF.sz_79 YtjdaglmkljbfkaaGreatDoorF.zero_79 rfl rfl rfl (fun v hv => by cases List.mem_singleton.1 hv; exact b3.length)) ?_
                rintro _ _ ⟨b104, rfl, rfl⟩
                refine ⟨_, .keep (by kernel_rfl) rfl (by first | exact QT_loadRAj (out := bareR c) (2 * 7) rfl rfl Tryz.underlying77 rfl YtjdaglmkljbfkaaGreatDoorF.sz_77 (Rd.own 1 rfl) rfl (fun _ => by rw [hTl]; decide) (fun _ => p2) | exact QT_loadRAj (out := bareR c) (2 * 7) rfl rfl Tryz.underlying77 rfl YtjdaglmkljbfkaaGreatDoorF.sz_77 (Rd.own 2 rfl) rfl (fun _ => by rw [hTl]; decide) (fun _ => p2)) (.keep (by kernel_rfl) rfl (by first | exact QT_loadW (cs := bareR t) 0 rfl rfl Tryz.underlying77 rfl rfl rfl (hz7 hbt) | exact QT_loadW (cs := bareR t) 1 rfl rfl Tryz.underlying77 rfl rfl rfl (hz7 hbt)) (.nil)), ?_⟩
                refine TV_e rfl rfl rfl rfl (rfl) (ET_appendL (L := [_, _, _]) rfl Tryz.underlying61 el_Tri rfl rfl hfr0 (fun _ h => h) (SlA.own (n := 1) (xs := B3 t c x) 0 rfl (one_own b3.length).symm (one_len b3.length) (by omega)) b3.oneCell (by omega) (by omega)) ?_
                rintro fv2 _ ⟨H2, hF2, rfl⟩
                refine ⟨_, .keep (by kernel_rfl) rfl (by first | exact QT_loadRAj (out := bareR c) (2 * 7) rfl rfl Tryz.underlying77 rfl YtjdaglmkljbfkaaGreatDoorF.sz_77 (Rd.own 1 rfl) rfl (fun _ => by rw [hTl]; decide) (fun _ => p2) | exact QT_loadRAj (out := bareR c) (2 * 7) rfl rfl Tryz.underlying77 rfl YtjdaglmkljbfkaaGreatDoorF.sz_77 (Rd.own 2 rfl) rfl (fun _ => by rw [hTl]; decide) (fun _ => p2)) (.keep (by kernel_rfl) rfl (by first | exact QT_loadW (cs := bareR t) 0 rfl rfl Tryz.underlying77 rfl rfl rfl (hz7 hbt) | exact QT_loadW (cs := bareR t) 1 rfl rfl Tryz.underlying77 rfl rfl rfl (hz7 hbt)) (.nil)), ?_⟩
                refine TV_q rfl rfl rfl (fun _ => QT_assign rfl rfl rfl) ?_
                refine TV_end ?_
                refine TX_block_normal ?_
                exact TX_cut ⟨(i, t, c, x, out ++ [B3 t c x], fv2, H2, f), Nat.le_refl _, ⟨hi, hit, hic, hx, by rw [List.length_append, flatten_snoc]; exact hF2, by rw [List.length_append]; show _ + 1 ≤ _; omega, fun _ => ⟨out, rfl, hall⟩, hfin2, by show rs.length - (i + 1) < f; omega⟩, hnb⟩ ⟨rfl, rfl, rfl, trivial⟩ (fun _ h => h.app_right (X := [_, _, _]))
        rintro ⟨⟨i2, a2, b2, c2, out2, fv2, H2, f2⟩, hle2, hS2, hnb2⟩
        dsimp only at hle2 hS2 ⊢
        have hle3 := hS2.le
        refine TC_reg ?_
        refine TL_q rfl rfl (QT_move rfl rfl rfl) ?_
        refine TL_q rfl rfl (QT_add rfl rfl rfl rfl (fun _ => ⟨by omega, by omega⟩)) ?_
        refine TL_q rfl rfl (QT_assign rfl rfl rfl) ?_
        refine TL_nil ?_
        exact TX_round ⟨(i2 + 1, a2, b2, c2, out2, fv2, H2, f2), hS2, fun _ => hnb2, fun h => absurd h (Nat.succ_ne_zero _)⟩ (by show rs.length - (i2 + 1) < rs.length - i; omega) ⟨rfl, rfl, rfl, trivial⟩ (fun _ h => h)
      ·
        refine TC_exit ?_
        refine TX_then_exit ?_
        refine TX_then_exit ?_
        refine TX_block_here ?_
        refine TX_then ?_
        refine TC_seq ?_
        refine TC_reg ?_
        refine TL_q rfl rfl (QT_move rfl rfl rfl) ?_
        refine TL_q rfl rfl (QT_assign rfl rfl rfl) ?_
        refine TL_q rfl rfl (QT_assign rfl rfl rfl) ?_
        refine TL_nil ?_
        refine TX_then ?_
        refine TC_ret ?_
        have hie : i = rs.length := by omega
        have hnb : ¬headBad rs := by
          by_cases hi0 : i = 0
          · have : rs = [] := List.eq_nil_of_length_eq_zero (by omega)
            rw [this]; exact id
          · exact hhb (by omega)
        have hFe : trioF L rs = (out, 0) := by
          rw [trioS hk h4 hnb, ← hFIN, ← hfin, hie, List.drop_length, strips_nil]
        rw [hFe]
        exact TX_ret (.inl rfl) (res2 rfl rfl rfl) ⟨_, ⟨fv, H, rfl, hfr, rfl⟩, fun _ h => h⟩
end Go.Proofs.YtjdaglmkljbfkaaGreatDoor
namespace Go.Proofs.YtjdaglmkljbfkaaGreatDoor
open Go Go.Gx Go.RowKit
set_option maxRecDepth 100000

end Go.Proofs.YtjdaglmkljbfkaaGreatDoor
namespace Go.Proofs.YtjdaglmkljbfkaaGreatDoor
open Go Go.Gx Go.RowKit
set_option maxRecDepth 100000

end Go.Proofs.YtjdaglmkljbfkaaGreatDoor
namespace Go.Proofs.YtjdaglmkljbfkaaGreatDoor
open Go Go.Gx Go.RowKit
set_option maxRecDepth 100000

end Go.Proofs.YtjdaglmkljbfkaaGreatDoor
namespace Go.Proofs.YtjdaglmkljbfkaaGreatDoor.T12
open Go Go.Gx Go.RowKit
set_option maxRecDepth 100000

def zP : List Value := zs patchK
def eP (f k : Nat) : Nat := (3 * f + k) % 12
def eC (f k : Nat) : Nat := (f + k) % 4
def erow (f : Nat) : List Value := [.int .i64 ((eP f 0 : Nat) : Int), .int .i64 ((eP f 1 : Nat) : Int), .int .i64 ((eP f 2 : Nat) : Int), .int .i64 ((eP f 3 : Nat) : Int), .int .i64 ((eC f 0 : Nat) : Int), .int .i64 ((eC f 1 : Nat) : Int)]
def edgesL : List Value := [.int .i64 0, .int .i64 0, .int .i64 0, .int .i64 0, .int .i64 0, .int .i64 0, .int .i64 3, .int .i64 4, .int .i64 5, .int .i64 6, .int .i64 1, .int .i64 2, .int .i64 6, .int .i64 7, .int .i64 8, .int .i64 9, .int .i64 2, .int .i64 3, .int .i64 9, .int .i64 10, .int .i64 11, .int .i64 0, .int .i64 3, .int .i64 0]
def Edges (w0 : Base) : Prop := ∀ j v, edgesL[j]? = some v → w0.cell? ⟨1, 0 + j, none⟩ = some v
theorem edges_row : ∀ f : Nat, 1 ≤ f → f ≤ 3 → (edgesL.drop (f * 6)).take 6 = erow f
  | 1, _, _ => rfl
  | 2, _, _ => rfl
  | 3, _, _ => rfl
def ptsTo (ah : List Value) (f : Nat) : Nat → List Value
  | 0 => zP
  | k + 1 => setAt (ptsTo ah f k) (0 + 0 + k * 2) ((ah.drop (0 + 0 + eP f k * 2)).take 2)
def colTo (ah : List Value) (f : Nat) : Nat → List Value
  | 0 => ptsTo ah f 4
  | k + 1 => setAt (colTo ah f k) (0 + 32 + k * 4) ((ah.drop (0 + 32 + eC f k * 4)).take 4)
theorem ptsTo_len (ah : List Value) (f : Nat) : ∀ k, (ptsTo ah f k).length = 48
  | 0 => rfl
  | k + 1 => by rw [ptsTo, setAt_length, ptsTo_len ah f k]
theorem colTo_len (ah : List Value) (f : Nat) : ∀ k, (colTo ah f k).length = 48
  | 0 => ptsTo_len ah f 4
  | k + 1 => by rw [colTo, setAt_length, colTo_len ah f k]
theorem all_part {ks : List IntKind} {ah : List Value} (h : Ints ks ah) (i m : Nat) : ((ah.drop i).take m).all Value.oneCell' = true :=
  List.all_eq_true.2 fun u hu => h.oneCell u (List.mem_of_mem_drop (List.mem_of_mem_take hu))
theorem part_len (ah : List Value) (i m : Nat) (h : i + m ≤ ah.length) : ((ah.drop i).take m).length = m := by rw [List.length_take, List.length_drop]; omega
theorem eP_lt (f k : Nat) : eP f k < 12 := Nat.mod_lt _ (by decide)
theorem eC_lt (f k : Nat) : eC f k < 4 := Nat.mod_lt _ (by decide)

def spC (ah : List Value) (k : Nat) : List Value := (ah.drop (k * 2)).take 2
def coC (ah : List Value) (k : Nat) : List Value := (ah.drop (32 + k * 4)).take 4
/-- the patch of a sheet's cells, behind a patch's -/
def wholeC (pts f : Nat) (s ah : List Value) : List Value :=
  if f = 0 then (s.drop 1).take (2 * pts) ++ List.replicate (32 - 2 * pts) (.int .u32 0) ++ (s.drop 33).take 16
  else spC ah (eP f 0) ++ spC ah (eP f 1) ++ spC ah (eP f 2) ++ spC ah (eP f 3) ++ (s.drop 1).take (2 * (pts - 4)) ++ List.replicate (32 - 2 * pts) (.int .u32 0) ++ coC ah (eC f 0) ++ coC ah (eC f 1) ++ (s.drop 33).take 8

theorem whole_eq0 {pts : Nat} {s ah : List Value} (hs : s.length = 49) (ha : ah.length = 48) (hp : pts = 12 ∨ pts = 16) :
    setAt (setAt zP (0 + 0 + 0 * 2) (((s.drop (0 + 1)).take (16 * 2)).take (min 16 (pts - 0) * 2))) (0 + 32 + 0 * 4) (((s.drop (0 + 33)).take (4 * 4)).take (min 4 (4 - 0) * 4)) = wholeC pts 0 s ah := by
  obtain ⟨g, rfl⟩ := tab' (.bool false) s hs
  obtain ⟨h, rfl⟩ := tab' (.bool false) ah ha
  rcases hp with rfl | rfl <;> kernel_rfl
theorem whole_eqE {pts f : Nat} {s ah : List Value} (hs : s.length = 49) (ha : ah.length = 48) (hp : pts = 12 ∨ pts = 16) (hf : f = 1 ∨ f = 2 ∨ f = 3) :
    setAt (setAt (colTo ah f 2) (0 + 0 + 4 * 2) (((s.drop (0 + 1)).take (16 * 2)).take (min 16 (pts - 4) * 2))) (0 + 32 + 2 * 4) (((s.drop (0 + 33)).take (4 * 4)).take (min 4 (4 - 2) * 4)) = wholeC pts f s ah := by
  obtain ⟨g, rfl⟩ := tab' (.bool false) s hs
  obtain ⟨h, rfl⟩ := tab' (.bool false) ah ha
  rcases hp with rfl | rfl <;> rcases hf with rfl | rfl | rfl <;> kernel_rfl

theorem whole_ints {pts f : Nat} {s ah : List Value} (hs : Ints sheetK s) (ha : Ints patchK ah) (hp : pts = 12 ∨ pts = 16) (hf : f ≤ 3) : Ints patchK (wholeC pts f s ah) := by
  have z := fun n => Ints.zeros (k := .u32) (by decide) n
  by_cases h0 : f = 0
  · unfold wholeC; rw [if_pos h0]
    have e : patchK = (sheetK.drop 1).take (2 * pts) ++ List.replicate (32 - 2 * pts) .u32 ++ (sheetK.drop 33).take 16 := by rcases hp with rfl | rfl <;> decide
    rw [e]
    exact (((hs.drop 1).take _).append (z _)).append ((hs.drop 33).take 16)
  · unfold wholeC; rw [if_neg h0]
    have e : patchK = (patchK.drop (eP f 0 * 2)).take 2 ++ (patchK.drop (eP f 1 * 2)).take 2 ++ (patchK.drop (eP f 2 * 2)).take 2 ++ (patchK.drop (eP f 3 * 2)).take 2 ++ (sheetK.drop 1).take (2 * (pts - 4)) ++ List.replicate (32 - 2 * pts) .u32 ++ (patchK.drop (32 + eC f 0 * 4)).take 4 ++ (patchK.drop (32 + eC f 1 * 4)).take 4 ++ (sheetK.drop 33).take 8 := by
      have hf' : f = 1 ∨ f = 2 ∨ f = 3 := by omega
      rcases hp with rfl | rfl <;> rcases hf' with rfl | rfl | rfl <;> decide
    rw [e]
    unfold spC coC
    exact (((((((((ha.drop _).take 2).append ((ha.drop _).take 2)).append ((ha.drop _).take 2)).append ((ha.drop _).take 2)).append ((hs.drop 1).take _)).append (z _)).append ((ha.drop _).take 4)).append ((ha.drop _).take 4)).append ((hs.drop 33).take 8)
theorem zP_ints : Ints patchK zP := zs_ints _

theorem whole_0 (w0 : Base) (η : Heap) (s ah : List Value) (pts : Nat) (hs : Ints sheetK s) (ha : Ints patchK ah) (hp : pts = 12 ∨ pts = 16) (hf : s[0]? = some (.int .u8 0)) :
    CallsT Tryz.prog 123 [.agg s.toArray, .agg ah.toArray, .int .i64 (pts : Int)] (St w0 η) fun v A' => v = .agg (wholeC pts 0 s ah).toArray ∧ A' = St w0 η := by
  have hsl : s.length = 49 := hs.length
  have hal : ah.length = 48 := ha.length
  have hzl : zP.length = 48 := rfl
  have hwi := whole_ints hs ha hp (Nat.zero_le 3)
  have hsz : Sz Tryz.prog 112 (wholeC pts 0 s ah).length := by rw [hwi.length]; exact YtjdaglmkljbfkaaGreatDoorF.sz_112
  refine CallsT.body Tryz.func123 rfl rfl ?_
  simp only [Tryz.ntmps123, slotsOf, Nat.reduceAdd]
  refine TC_seq ?_
  refine TC_reg ?_
  refine TL_e rfl rfl rfl (rfl) (ET_box rfl rfl) ?_
  rintro _ _ ⟨b3, rfl, rfl⟩
  refine TL_e rfl rfl rfl (rfl) (ET_box rfl rfl) ?_
  rintro _ _ ⟨b4, rfl, rfl⟩
  refine TL_e rfl rfl rfl (rfl) (ET_alloc rfl YtjdaglmkljbfkaaGreatDoorF.zero_112) ?_
  rintro _ _ ⟨b6, rfl, rfl⟩
  refine TL_nil ?_
  refine TX_then ?_
  refine TC_seq ?_
  refine TC_reg ?_
  refine TL_q rfl rfl (QT_assign rfl rfl rfl) ?_
  refine TL_q rfl rfl (QT_assign rfl rfl rfl) ?_
  refine TL_nil ?_
  refine TX_then ?_
  refine TC_seq ?_
  refine TC_seq ?_
  refine TC_reg ?_
  refine TL_q rfl rfl (QT_field rfl rfl YtjdaglmkljbfkaaGreatDoorF.fld_102_0 rfl) ?_
  refine TL_q rfl rfl (QT_load 2 rfl rfl Tryz.underlying5 rfl rfl rfl (fun _ => hf)) ?_
  refine TL_q rfl rfl (QT_gtr rfl rfl rfl rfl) ?_
  refine TL_nil ?_
  refine TX_then ?_
  refine TC_cond rfl (fun h => absurd (h.symm.trans ((show (_ : Bool) = false by rfl))) (by decide)) (fun _ => ?_)
  refine TC_skip ?_
  refine TX_then ?_
  refine TC_seq ?_
  refine TC_draw [(0, 0), (1, 0), (2, 0), (3, 0), (4, 0), (5, 0), (6, 1)] YtjdaglmkljbfkaaGreatDoorF.mixed (by kernel_rfl) (St.calm _ _) ?_
  refine TV_q rfl rfl rfl (fun _ => QT_field rfl rfl YtjdaglmkljbfkaaGreatDoorF.fld_112_0 rfl) ?_
  refine TV_q rfl rfl rfl (fun _ => QT_move rfl rfl rfl) ?_
  refine TV_q rfl rfl rfl (fun _ => QT_move rfl rfl rfl) ?_
  refine TV_q rfl rfl rfl (fun _ => QT_slaLH (0) (pts) rfl rfl rfl Tryz.underlying99 YtjdaglmkljbfkaaGreatDoorF.sz_72 rfl rfl rfl rfl rfl (fun _ => ⟨by omega, by omega, by omega⟩)) ?_
  refine TV_q rfl rfl rfl (fun _ => QT_field rfl rfl YtjdaglmkljbfkaaGreatDoorF.fld_102_1 rfl) ?_
  refine TV_q rfl rfl rfl (fun _ => QT_slaA  rfl rfl rfl rfl rfl Tryz.underlying99 YtjdaglmkljbfkaaGreatDoorF.sz_72 rfl ) ?_
  refine TV_e rfl rfl rfl rfl (rfl) (ET_copy (news := (s.drop (0 + 1)).take (16 * 2)) 0 rfl Tryz.underlying244 YtjdaglmkljbfkaaGreatDoorF.sz_72 rfl rfl rfl (SlA.own (n := 16) 2 rfl rfl (show 0 + 1 + 16 * 2 ≤ s.length by omega) (by omega)) (fun u hu => hs.oneCell u (List.mem_of_mem_drop (List.mem_of_mem_take hu))) (show 0 + 0 + 0 * 2 + min 16 (pts - 0) * 2 ≤ zP.length by omega)) ?_
  rintro _ _ ⟨rfl, rfl⟩
  refine ⟨_, .nil, ?_⟩
  refine TV_end ?_
  refine TX_then ?_
  refine TC_seq ?_
  refine TC_draw [(0, 0), (1, 0), (2, 0), (3, 0), (4, 0), (5, 1)] YtjdaglmkljbfkaaGreatDoorF.mixed (by kernel_rfl) (St.calm _ _) ?_
  refine TV_q rfl rfl rfl (fun _ => QT_field rfl rfl YtjdaglmkljbfkaaGreatDoorF.fld_112_1 rfl) ?_
  refine TV_q rfl rfl rfl (fun _ => QT_move rfl rfl rfl) ?_
  refine TV_q rfl rfl rfl (fun _ => QT_slaL (0) rfl rfl rfl rfl Tryz.underlying100 YtjdaglmkljbfkaaGreatDoorF.sz_75 rfl rfl rfl (fun _ => by omega)) ?_
  refine TV_q rfl rfl rfl (fun _ => QT_field rfl rfl YtjdaglmkljbfkaaGreatDoorF.fld_102_2 rfl) ?_
  refine TV_q rfl rfl rfl (fun _ => QT_slaA  rfl rfl rfl rfl rfl Tryz.underlying100 YtjdaglmkljbfkaaGreatDoorF.sz_75 rfl ) ?_
  refine TV_e rfl rfl rfl rfl (rfl) (ET_copy (news := (s.drop (0 + 33)).take (4 * 4)) 0 rfl Tryz.underlying245 YtjdaglmkljbfkaaGreatDoorF.sz_75 rfl rfl rfl (SlA.own (n := 4) 2 rfl rfl (show 0 + 33 + 4 * 4 ≤ s.length by omega) (by omega)) (fun u hu => hs.oneCell u (List.mem_of_mem_drop (List.mem_of_mem_take hu))) (by rw [setAt_length]; show 0 + 32 + 0 * 4 + min 4 (4 - 0) * 4 ≤ zP.length; omega)) ?_
  rintro _ _ ⟨rfl, rfl⟩
  refine ⟨_, .nil, ?_⟩
  refine TV_end ?_
  refine TX_then ?_
  refine TC_seq ?_
  refine TC_A (St w0 ((b6, 112, wholeC pts 0 s ah) :: (b4, 112, ah) :: (b3, 102, s) :: η)) (fun w h => by rw [← whole_eq0 hsl hal hp]; exact h) ?_
  refine TC_reg ?_
  refine TL_q rfl rfl (QT_loadW 0 rfl rfl Tryz.underlying112 rfl rfl rfl hsz) ?_
  refine TL_e0 rfl rfl (rfl) (ET_storeW 0 rfl rfl rfl hsz rfl (List.all_eq_true.2 hwi.oneCell) (Nat.beq_refl _)) ?_
  rintro _ _ ⟨rfl, rfl⟩
  refine TL_nil ?_
  refine TX_then ?_
  refine TC_ret ?_
  exact TX_ret (.inl rfl) (resC 0 rfl rfl Tryz.underlying112 rfl rfl hsz) ⟨_, ⟨rfl, rfl⟩, (fun _ h => by first | exact h | exact h.tail | exact h.tail.tail | exact h.tail.tail.tail | exact h.tail.tail.tail.tail | exact h.tail.tail.tail.tail.tail | exact h.tail.tail.tail.tail.tail.tail | exact h.tail.tail.tail.tail.tail.tail.tail | exact h.tail.tail.tail.tail.tail.tail.tail.tail | exact h.tail.tail.tail.tail.tail.tail.tail.tail.tail | exact h.tail.tail.tail.tail.tail.tail.tail.tail.tail.tail | exact h.tail.tail.tail.tail.tail.tail.tail.tail.tail.tail.tail | exact h.tail.tail.tail.tail.tail.tail.tail.tail.tail.tail.tail.tail | exact h.tail.tail.tail.tail.tail.tail.tail.tail.tail.tail.tail.tail.tail)⟩
theorem whole_e (w0 : Base) (η : Heap) (hE : Edges w0) (s ah : List Value) (pts f : Nat) (hs : Ints sheetK s) (ha : Ints patchK ah) (hp : pts = 12 ∨ pts = 16) (hf : s[0]? = some (.int .u8 (f : Int))) (h1 : 1 ≤ f) (h3 : f ≤ 3) :
    CallsT Tryz.prog 123 [.agg s.toArray, .agg ah.toArray, .int .i64 (pts : Int)] (St w0 η) fun v A' => v = .agg (wholeC pts f s ah).toArray ∧ A' = St w0 η := by
  have hsl : s.length = 49 := hs.length
  have hal : ah.length = 48 := ha.length
  have hwi := whole_ints hs ha hp h3
  have hsz : Sz Tryz.prog 112 (wholeC pts f s ah).length := by rw [hwi.length]; exact YtjdaglmkljbfkaaGreatDoorF.sz_112
  have hR : ∀ η', Rd (St w0 η') 1 0 edgesL := fun η' => Rd.start hE
  refine CallsT.body Tryz.func123 rfl rfl ?_
  simp only [Tryz.ntmps123, slotsOf, Nat.reduceAdd]
  refine TC_seq ?_
  refine TC_reg ?_
  refine TL_e rfl rfl rfl (rfl) (ET_box rfl rfl) ?_
  rintro _ _ ⟨b3, rfl, rfl⟩
  refine TL_e rfl rfl rfl (rfl) (ET_box rfl rfl) ?_
  rintro _ _ ⟨b4, rfl, rfl⟩
  refine TL_e rfl rfl rfl (rfl) (ET_alloc rfl YtjdaglmkljbfkaaGreatDoorF.zero_112) ?_
  rintro _ _ ⟨b6, rfl, rfl⟩
  refine TL_nil ?_
  refine TX_then ?_
  refine TC_seq ?_
  refine TC_reg ?_
  refine TL_q rfl rfl (QT_assign rfl rfl rfl) ?_
  refine TL_q rfl rfl (QT_assign rfl rfl rfl) ?_
  refine TL_nil ?_
  refine TX_then ?_
  refine TC_seq ?_
  refine TC_seq ?_
  refine TC_reg ?_
  refine TL_q rfl rfl (QT_field rfl rfl YtjdaglmkljbfkaaGreatDoorF.fld_102_0 rfl) ?_
  refine TL_q rfl rfl (QT_load 2 rfl rfl Tryz.underlying5 rfl rfl rfl (fun _ => hf)) ?_
  refine TL_q rfl rfl (QT_gtr rfl rfl rfl rfl) ?_
  refine TL_nil ?_
  refine TX_then ?_
  refine TC_cond rfl (fun _ => ?_) (fun h => absurd (h.symm.trans ((decide_eq_true (by omega)))) (by decide))
  refine TC_seq ?_
  refine TC_reg ?_
  refine TL_q rfl rfl (QT_field rfl rfl YtjdaglmkljbfkaaGreatDoorF.fld_102_0 rfl) ?_
  refine TL_q rfl rfl (QT_load 2 rfl rfl Tryz.underlying5 rfl rfl rfl (fun _ => hf)) ?_
  refine TL_q rfl rfl (QT_indexArr (f) rfl rfl Tryz.underlying243 YtjdaglmkljbfkaaGreatDoorF.sz_242 rfl rfl (rfl) (fun _ => by omega)) ?_
  refine TL_q rfl rfl (QT_loadRAj (f * 6) rfl rfl Tryz.underlying242 rfl YtjdaglmkljbfkaaGreatDoorF.sz_242 (hR _) rfl (fun _ => show f * 6 + 6 ≤ 24 by omega) (fun _ => edges_row f h1 h3)) ?_
  refine TL_e rfl rfl rfl (rfl) (ET_alloc rfl YtjdaglmkljbfkaaGreatDoorF.zero_242) ?_
  rintro _ _ ⟨b9, rfl, rfl⟩
  refine TL_e0 rfl rfl (rfl) (ET_storeW (vs := erow f) 0 rfl rfl rfl YtjdaglmkljbfkaaGreatDoorF.sz_242 rfl rfl rfl) ?_
  rintro _ _ ⟨rfl, rfl⟩
  refine TL_nil ?_
  refine TX_then ?_
  refine TC_seq ?_
  refine TC_seq ?_
  refine TC_reg ?_
  refine TL_q rfl rfl (QT_field rfl rfl YtjdaglmkljbfkaaGreatDoorF.fld_242_0 rfl) ?_
  refine TL_q rfl rfl (QT_field rfl rfl YtjdaglmkljbfkaaGreatDoorF.fld_239_0 rfl) ?_
  refine TL_q rfl rfl (QT_loadA 0 rfl rfl Tryz.underlying237 rfl rfl rfl YtjdaglmkljbfkaaGreatDoorF.sz_237 (fun _ => rfl)) ?_
  refine TL_q rfl rfl (QT_move rfl rfl rfl) ?_
  refine TL_nil ?_
  refine TX_then ?_
  refine TC_block ?_
  refine TC_loop (γ := { i : Nat // i ≤ 4 }) (fun t => [(2, true, .int .i64 (pts : Int)), (3, true, .pointer (some ⟨b3, 0, none⟩)), (4, true, .pointer (some ⟨b4, 0, none⟩)), (6, true, .pointer (some ⟨b6, 0, none⟩)), (9, true, .pointer (some ⟨b9, 0, none⟩)), (23, true, .agg (((erow f).drop (0 + 0 + 0)).take 4).toArray), (24, true, .int .i64 (t.1 : Int))]) (fun t => St w0 ((b9, 242, erow f) :: (b6, 112, ptsTo ah f t.1) :: (b4, 112, ah) :: (b3, 102, s) :: η)) (fun t => 4 - t.1) ⟨0, by omega⟩ ⟨rfl, rfl, rfl, rfl, rfl, rfl, rfl, trivial⟩ (fun _ h => h) ?_
  rintro ⟨i, hi⟩
  dsimp only
  refine TC_seq ?_
  refine TC_reg ?_
  refine TL_q rfl rfl (QT_lss rfl rfl rfl rfl) ?_
  refine TL_nil ?_
  refine TX_then ?_
  refine TC_seq ?_
  refine TC_cond_dec rfl (fun h25 => ?_) (fun h25 => ?_)
  ·
    have hi' : i < 4 := by omega
    have hrow : (((erow f).drop (0 + 0 + 0)).take 4)[i]? = some (.int .i64 ((eP f i : Nat) : Int)) := by
      match i, hi' with
      | 0, _ => rfl
      | 1, _ => rfl
      | 2, _ => rfl
      | 3, _ => rfl
    have hel := eP_lt f i
    have hpl := part_len ah (0 + 0 + eP f i * 2) 2 (by omega)
    have hql := ptsTo_len ah f i
    refine TC_skip ?_
    refine TX_then ?_
    refine TC_seq ?_
    refine TC_block ?_
    refine TC_seq ?_
    refine TC_reg ?_
    refine TL_q rfl rfl (QT_move rfl rfl rfl) ?_
    refine TL_q rfl rfl (QT_indexV i rfl rfl Tryz.underlying237 Tryz.underlying3 rfl YtjdaglmkljbfkaaGreatDoorF.sz_3 rfl rfl rfl (fun _ => hi') (fun _ => hrow)) ?_
    refine TL_q rfl rfl (QT_assign rfl rfl rfl) ?_
    refine TL_q rfl rfl (QT_assign rfl rfl rfl) ?_
    refine TL_nil ?_
    refine TX_then ?_
    refine TC_reg ?_
    refine TL_q rfl rfl (QT_move rfl rfl rfl) ?_
    refine TL_q rfl rfl (QT_move rfl rfl rfl) ?_
    refine TL_q rfl rfl (QT_field rfl rfl YtjdaglmkljbfkaaGreatDoorF.fld_112_0 rfl) ?_
    refine TL_q rfl rfl (QT_indexArr (eP f i) rfl rfl Tryz.underlying99 YtjdaglmkljbfkaaGreatDoorF.sz_72 rfl rfl (rfl) (fun _ => by omega)) ?_
    refine TL_q rfl rfl (QT_loadA 2 rfl rfl Tryz.underlying72 rfl rfl rfl YtjdaglmkljbfkaaGreatDoorF.sz_72 (fun _ => Nat.ble_eq_true_of_le (show 0 + 0 + eP f i * 2 + 2 ≤ ah.length by omega))) ?_
    refine TL_q rfl rfl (QT_field rfl rfl YtjdaglmkljbfkaaGreatDoorF.fld_112_0 rfl) ?_
    refine TL_q rfl rfl (QT_indexArr (i) rfl rfl Tryz.underlying99 YtjdaglmkljbfkaaGreatDoorF.sz_72 rfl rfl (rfl) (fun _ => by omega)) ?_
    refine TL_e0 rfl rfl (rfl) (ET_store (vs := (ah.drop (0 + 0 + eP f i * 2)).take 2) 1 rfl rfl rfl rfl (by rw [hpl]; exact YtjdaglmkljbfkaaGreatDoorF.sz_72) rfl (all_part ha _ _) (Nat.ble_eq_true_of_le (by rw [hpl, hql]; omega))) ?_
    rintro _ _ ⟨rfl, rfl⟩
    refine TL_nil ?_
    refine TX_block_normal ?_
    refine TX_then ?_
    refine TC_reg ?_
    refine TL_q rfl rfl (QT_add rfl rfl rfl rfl (fun _ => ⟨by omega, by omega⟩)) ?_
    refine TL_q rfl rfl (QT_move rfl rfl rfl) ?_
    refine TL_nil ?_
    exact TX_round ⟨i + 1, by omega⟩ (by show 4 - (i + 1) < 4 - i; omega) ⟨rfl, rfl, rfl, rfl, rfl, rfl, rfl, trivial⟩ (fun _ h => h)
  ·
    refine TC_exit ?_
    refine TX_then_exit ?_
    refine TX_then_exit ?_
    refine TX_block_here ?_
    refine TX_then ?_
    refine TC_seq ?_
    refine TC_seq ?_
    obtain rfl : i = 4 := by omega
    refine TC_reg ?_
    refine TL_q rfl rfl (QT_field rfl rfl YtjdaglmkljbfkaaGreatDoorF.fld_242_1 rfl) ?_
    refine TL_q rfl rfl (QT_loadA 0 rfl rfl Tryz.underlying240 rfl rfl rfl YtjdaglmkljbfkaaGreatDoorF.sz_240 (fun _ => rfl)) ?_
    refine TL_q rfl rfl (QT_move rfl rfl rfl) ?_
    refine TL_nil ?_
    refine TX_then ?_
    refine TC_block ?_
    refine TC_loop (γ := { i : Nat // i ≤ 2 }) (fun t => [(2, true, .int .i64 (pts : Int)), (3, true, .pointer (some ⟨b3, 0, none⟩)), (4, true, .pointer (some ⟨b4, 0, none⟩)), (6, true, .pointer (some ⟨b6, 0, none⟩)), (37, true, .agg (((erow f).drop (0 + 4)).take 2).toArray), (38, true, .int .i64 (t.1 : Int))]) (fun t => St w0 ((b9, 242, erow f) :: (b6, 112, colTo ah f t.1) :: (b4, 112, ah) :: (b3, 102, s) :: η)) (fun t => 2 - t.1) ⟨0, by omega⟩ ⟨rfl, rfl, rfl, rfl, rfl, rfl, trivial⟩ (fun _ h => h) ?_
    rintro ⟨i, hi⟩
    dsimp only
    refine TC_seq ?_
    refine TC_reg ?_
    refine TL_q rfl rfl (QT_lss rfl rfl rfl rfl) ?_
    refine TL_nil ?_
    refine TX_then ?_
    refine TC_seq ?_
    refine TC_cond_dec rfl (fun h39 => ?_) (fun h39 => ?_)
    ·
      have hi' : i < 2 := by omega
      have hrow : (((erow f).drop (0 + 4)).take 2)[i]? = some (.int .i64 ((eC f i : Nat) : Int)) := by
        match i, hi' with
        | 0, _ => rfl
        | 1, _ => rfl
      have hel := eC_lt f i
      have hpl := part_len ah (0 + 32 + eC f i * 4) 4 (by omega)
      have hql := colTo_len ah f i
      refine TC_skip ?_
      refine TX_then ?_
      refine TC_seq ?_
      refine TC_block ?_
      refine TC_seq ?_
      refine TC_reg ?_
      refine TL_q rfl rfl (QT_move rfl rfl rfl) ?_
      refine TL_q rfl rfl (QT_indexV i rfl rfl Tryz.underlying240 Tryz.underlying3 rfl YtjdaglmkljbfkaaGreatDoorF.sz_3 rfl rfl rfl (fun _ => hi') (fun _ => hrow)) ?_
      refine TL_q rfl rfl (QT_assign rfl rfl rfl) ?_
      refine TL_q rfl rfl (QT_assign rfl rfl rfl) ?_
      refine TL_nil ?_
      refine TX_then ?_
      refine TC_reg ?_
      refine TL_q rfl rfl (QT_move rfl rfl rfl) ?_
      refine TL_q rfl rfl (QT_move rfl rfl rfl) ?_
      refine TL_q rfl rfl (QT_field rfl rfl YtjdaglmkljbfkaaGreatDoorF.fld_112_1 rfl) ?_
      refine TL_q rfl rfl (QT_indexArr (eC f i) rfl rfl Tryz.underlying100 YtjdaglmkljbfkaaGreatDoorF.sz_75 rfl rfl (rfl) (fun _ => by omega)) ?_
      refine TL_q rfl rfl (QT_loadA 2 rfl rfl Tryz.underlying75 rfl rfl rfl YtjdaglmkljbfkaaGreatDoorF.sz_75 (fun _ => Nat.ble_eq_true_of_le (show 0 + 32 + eC f i * 4 + 4 ≤ ah.length by omega))) ?_
      refine TL_q rfl rfl (QT_field rfl rfl YtjdaglmkljbfkaaGreatDoorF.fld_112_1 rfl) ?_
      refine TL_q rfl rfl (QT_indexArr (i) rfl rfl Tryz.underlying100 YtjdaglmkljbfkaaGreatDoorF.sz_75 rfl rfl (rfl) (fun _ => by omega)) ?_
      refine TL_e0 rfl rfl (rfl) (ET_store (vs := (ah.drop (0 + 32 + eC f i * 4)).take 4) 1 rfl rfl rfl rfl (by rw [hpl]; exact YtjdaglmkljbfkaaGreatDoorF.sz_75) rfl (all_part ha _ _) (Nat.ble_eq_true_of_le (by rw [hpl, hql]; omega))) ?_
      rintro _ _ ⟨rfl, rfl⟩
      refine TL_nil ?_
      refine TX_block_normal ?_
      refine TX_then ?_
      refine TC_reg ?_
      refine TL_q rfl rfl (QT_add rfl rfl rfl rfl (fun _ => ⟨by omega, by omega⟩)) ?_
      refine TL_q rfl rfl (QT_move rfl rfl rfl) ?_
      refine TL_nil ?_
      exact TX_round ⟨i + 1, by omega⟩ (by show 2 - (i + 1) < 2 - i; omega) ⟨rfl, rfl, rfl, rfl, rfl, rfl, trivial⟩ (fun _ h => h)
    ·
      refine TC_exit ?_
      refine TX_then_exit ?_
      refine TX_then_exit ?_
      refine TX_block_here ?_
      refine TX_then ?_
      obtain rfl : i = 2 := by omega
      refine TC_reg ?_
      refine TL_q rfl rfl (QT_assign rfl rfl rfl) ?_
      refine TL_q rfl rfl (QT_assign rfl rfl rfl) ?_
      refine TL_nil ?_
      refine TX_then ?_
      refine TC_seq ?_
      refine TC_draw [(0, 0), (1, 0), (2, 0), (3, 0), (4, 0), (5, 0), (6, 1)] YtjdaglmkljbfkaaGreatDoorF.mixed (by kernel_rfl) (St.calm _ _) ?_
      have hcl := colTo_len ah f 2
      refine TV_q rfl rfl rfl (fun _ => QT_field rfl rfl YtjdaglmkljbfkaaGreatDoorF.fld_112_0 rfl) ?_
      refine TV_q rfl rfl rfl (fun _ => QT_move rfl rfl rfl) ?_
      refine TV_q rfl rfl rfl (fun _ => QT_move rfl rfl rfl) ?_
      refine TV_q rfl rfl rfl (fun _ => QT_slaLH (4) (pts) rfl rfl rfl Tryz.underlying99 YtjdaglmkljbfkaaGreatDoorF.sz_72 rfl rfl rfl rfl rfl (fun _ => ⟨by omega, by omega, by omega⟩)) ?_
      refine TV_q rfl rfl rfl (fun _ => QT_field rfl rfl YtjdaglmkljbfkaaGreatDoorF.fld_102_1 rfl) ?_
      refine TV_q rfl rfl rfl (fun _ => QT_slaA  rfl rfl rfl rfl rfl Tryz.underlying99 YtjdaglmkljbfkaaGreatDoorF.sz_72 rfl ) ?_
      refine TV_e rfl rfl rfl rfl (rfl) (ET_copy (news := (s.drop (0 + 1)).take (16 * 2)) 1 rfl Tryz.underlying244 YtjdaglmkljbfkaaGreatDoorF.sz_72 rfl rfl rfl (SlA.own (n := 16) 3 rfl rfl (show 0 + 1 + 16 * 2 ≤ s.length by omega) (by omega)) (fun u hu => hs.oneCell u (List.mem_of_mem_drop (List.mem_of_mem_take hu))) (show 0 + 0 + 4 * 2 + min 16 (pts - 4) * 2 ≤ (colTo ah f 2).length by omega)) ?_
      rintro _ _ ⟨rfl, rfl⟩
      refine ⟨_, .nil, ?_⟩
      refine TV_end ?_
      refine TX_then ?_
      refine TC_seq ?_
      refine TC_draw [(0, 0), (1, 0), (2, 0), (3, 0), (4, 0), (5, 1)] YtjdaglmkljbfkaaGreatDoorF.mixed (by kernel_rfl) (St.calm _ _) ?_
      refine TV_q rfl rfl rfl (fun _ => QT_field rfl rfl YtjdaglmkljbfkaaGreatDoorF.fld_112_1 rfl) ?_
      refine TV_q rfl rfl rfl (fun _ => QT_move rfl rfl rfl) ?_
      refine TV_q rfl rfl rfl (fun _ => QT_slaL (2) rfl rfl rfl rfl Tryz.underlying100 YtjdaglmkljbfkaaGreatDoorF.sz_75 rfl rfl rfl (fun _ => by omega)) ?_
      refine TV_q rfl rfl rfl (fun _ => QT_field rfl rfl YtjdaglmkljbfkaaGreatDoorF.fld_102_2 rfl) ?_
      refine TV_q rfl rfl rfl (fun _ => QT_slaA  rfl rfl rfl rfl rfl Tryz.underlying100 YtjdaglmkljbfkaaGreatDoorF.sz_75 rfl ) ?_
      refine TV_e rfl rfl rfl rfl (rfl) (ET_copy (news := (s.drop (0 + 33)).take (4 * 4)) 1 rfl Tryz.underlying245 YtjdaglmkljbfkaaGreatDoorF.sz_75 rfl rfl rfl (SlA.own (n := 4) 3 rfl rfl (show 0 + 33 + 4 * 4 ≤ s.length by omega) (by omega)) (fun u hu => hs.oneCell u (List.mem_of_mem_drop (List.mem_of_mem_take hu))) (by rw [setAt_length]; show 0 + 32 + 2 * 4 + min 4 (4 - 2) * 4 ≤ (colTo ah f 2).length; omega)) ?_
      rintro _ _ ⟨rfl, rfl⟩
      refine ⟨_, .nil, ?_⟩
      refine TV_end ?_
      refine TX_then ?_
      refine TC_seq ?_
      refine TC_A (St w0 ((b9, 242, erow f) :: (b6, 112, wholeC pts f s ah) :: (b4, 112, ah) :: (b3, 102, s) :: η)) (fun w h => by rw [← whole_eqE hsl hal hp (show f = 1 ∨ f = 2 ∨ f = 3 by omega)]; exact h) ?_
      refine TC_reg ?_
      refine TL_q rfl rfl (QT_loadW 1 rfl rfl Tryz.underlying112 rfl rfl rfl hsz) ?_
      refine TL_e0 rfl rfl (rfl) (ET_storeW 1 rfl rfl rfl hsz rfl (List.all_eq_true.2 hwi.oneCell) (Nat.beq_refl _)) ?_
      rintro _ _ ⟨rfl, rfl⟩
      refine TL_nil ?_
      refine TX_then ?_
      refine TC_ret ?_
      exact TX_ret (.inl rfl) (resC 1 rfl rfl Tryz.underlying112 rfl rfl hsz) ⟨_, ⟨rfl, rfl⟩, (fun _ h => by first | exact h | exact h.tail | exact h.tail.tail | exact h.tail.tail.tail | exact h.tail.tail.tail.tail | exact h.tail.tail.tail.tail.tail | exact h.tail.tail.tail.tail.tail.tail | exact h.tail.tail.tail.tail.tail.tail.tail | exact h.tail.tail.tail.tail.tail.tail.tail.tail | exact h.tail.tail.tail.tail.tail.tail.tail.tail.tail | exact h.tail.tail.tail.tail.tail.tail.tail.tail.tail.tail | exact h.tail.tail.tail.tail.tail.tail.tail.tail.tail.tail.tail | exact h.tail.tail.tail.tail.tail.tail.tail.tail.tail.tail.tail.tail | exact h.tail.tail.tail.tail.tail.tail.tail.tail.tail.tail.tail.tail.tail)⟩
theorem whole_spec (w0 : Base) (η : Heap) (hE : Edges w0) (s ah : List Value) (pts f : Nat) (hs : Ints sheetK s) (ha : Ints patchK ah) (hp : pts = 12 ∨ pts = 16) (hf : s[0]? = some (.int .u8 (f : Int))) (h3 : f ≤ 3) :
    CallsT Tryz.prog 123 [.agg s.toArray, .agg ah.toArray, .int .i64 (pts : Int)] (St w0 η) fun v A' => v = .agg (wholeC pts f s ah).toArray ∧ A' = St w0 η := by
  by_cases h0 : f = 0
  · subst h0; exact whole_0 w0 η s ah pts hs ha hp hf
  · exact whole_e w0 η hE s ah pts f hs ha hp hf (by omega) h3
end Go.Proofs.YtjdaglmkljbfkaaGreatDoor.T12
namespace Go.Proofs.YtjdaglmkljbfkaaGreatDoor.T12
open Go Go.Gx Go.RowKit
set_option maxRecDepth 100000

/-- the i-th sheet's flag -/
def flg (xs : List Value) (i : Nat) : Nat := match xs[i * 49]? with
  | some (.int _ z) => z.toNat
  | _ => 0
theorem flg_spec {n i : Nat} {xs : List Value} (h : Ints (rep n sheetK) xs) (hi : i < n) : xs[i * 49]? = some (.int .u8 (flg xs i : Int)) ∧ (elem xs 49 i)[0]? = some (.int .u8 (flg xs i : Int)) ∧ flg xs i ≤ 255 := by
  have he : Ints sheetK (elem xs 49 i) := h.elem hi
  obtain ⟨z, cs', e, hw, _⟩ := (show Ints (.u8 :: sheetK.tail) (elem xs 49 i) from he).inv
  have h0 : (elem xs 49 i)[0]? = xs[i * 49]? := by
    unfold elem
    rw [List.getElem?_take_of_lt (by decide), List.getElem?_drop, Nat.add_zero]
  have hz := wf_u8 hw
  have h1 : xs[i * 49]? = some (.int .u8 z) := by rw [← h0, e]; rfl
  have hf : flg xs i = z.toNat := by unfold flg; rw [h1]
  have hz2 : (flg xs i : Int) = z := by rw [hf]; omega
  rw [h0, h1, hz2]
  exact ⟨rfl, rfl, by omega⟩
def bigB (xs : List Value) (n : Nat) : Bool := (List.range n).any fun i => decide (4 ≤ flg xs i)
theorem bigB_false {xs : List Value} {n : Nat} (h : bigB xs n = false) : ∀ i, i < n → flg xs i ≤ 3 := by
  intro i hi
  simp only [bigB, List.any_eq_false, List.mem_range, decide_eq_true_eq] at h
  have := h i hi
  omega
theorem bigB_intro {xs : List Value} {n i : Nat} (hi : i < n) (h : 4 ≤ flg xs i) : bigB xs n = true := by
  simp only [bigB, List.any_eq_true, List.mem_range, decide_eq_true_eq]
  exact ⟨i, hi, h⟩
theorem bigB_none {xs : List Value} {n : Nat} (h : ∀ i, i < n → flg xs i ≤ 3) : bigB xs n = false := by
  simp only [bigB, List.any_eq_false, List.mem_range, decide_eq_true_eq]
  intro i hi
  have := h i hi
  omega
def ptsT (L : Lay) : Nat := if L.ty = 7 then 16 else 12
theorem ptsT_or (L : Lay) : ptsT L = 12 ∨ ptsT L = 16 := by unfold ptsT; split <;> simp
/-- the patch ahead of the i-th sheet -/
def tileB (pts : Nat) (xs : List Value) : Nat → List Value
  | 0 => zP
  | i + 1 => wholeC pts (flg xs i) (elem xs 49 i) (tileB pts xs i)
def tilesC (pts : Nat) (xs : List Value) : Nat → List Value
  | 0 => []
  | i + 1 => tilesC pts xs i ++ tileB pts xs (i + 1)
theorem tileB_ints {pts n : Nat} {xs : List Value} (hx : Ints (rep n sheetK) xs) (hp : pts = 12 ∨ pts = 16) (hb : ∀ i, i < n → flg xs i ≤ 3) : ∀ i, i ≤ n → Ints patchK (tileB pts xs i)
  | 0, _ => zP_ints
  | i + 1, h => whole_ints (hx.elem (by omega)) (tileB_ints hx hp hb i (by omega)) hp (hb i (by omega))
def errT (L : Lay) (n : Nat) (xs : List Value) : Int :=
  if okB L = true ∧ 6 ≤ L.ty then (if 0 < n ∧ flg xs 0 ≠ 0 then 6 else if bigB xs n = true then 7 else 0) else 4
def cntT (L : Lay) (n : Nat) (xs : List Value) : Nat := if errT L n xs = 0 then n else 0
def outT (L : Lay) (n : Nat) (xs : List Value) : List Value := if errT L n xs = 0 then tilesC (ptsT L) xs n else []
theorem errT_zero {L : Lay} {n : Nat} {xs : List Value} (h : errT L n xs = 0) : okB L = true ∧ (L.ty = 6 ∨ L.ty = 7) ∧ (0 < n → flg xs 0 = 0) ∧ ∀ i, i < n → flg xs i ≤ 3 := by
  unfold errT at h
  split at h
  · rename_i h1
    split at h
    · cases h
    · rename_i h2
      split at h
      · cases h
      · rename_i h3
        obtain ⟨_, _, _, hty, _⟩ := okB_bounds h1.1
        exact ⟨h1.1, by omega, fun h0 => Classical.byContradiction fun hne => h2 ⟨h0, hne⟩, bigB_false (by simpa using h3)⟩
  · cases h
theorem big_spec (w0 : Base) (η : Heap) (s : List Value) (f : Nat) (hf : s[0]? = some (.int .u8 (f : Int))) (h2 : f ≤ 255) :
    CallsT Tryz.prog 122 [.agg s.toArray] (St w0 η) fun v A' => v = .bool (decide (4 ≤ f)) ∧ A' = St w0 η := by
  have hw : IntKind.i64.wrap (f : Int) = (f : Int) := wrap_i64 ⟨by omega, by omega⟩
  refine CallsT.body Tryz.func122 rfl rfl ?_
  simp only [Tryz.ntmps122, slotsOf, Nat.reduceAdd]
  refine TC_seq ?_
  refine TC_reg ?_
  refine TL_e rfl rfl rfl (rfl) (ET_box rfl rfl) ?_
  rintro _ _ ⟨b1, rfl, rfl⟩
  refine TL_q rfl rfl (QT_assign rfl rfl rfl) ?_
  refine TL_nil ?_
  refine TX_then ?_
  refine TC_seq ?_
  refine TC_reg ?_
  refine TL_q rfl rfl (QT_field rfl rfl YtjdaglmkljbfkaaGreatDoorF.fld_102_0 rfl) ?_
  refine TL_q rfl rfl (QT_load 0 rfl rfl Tryz.underlying5 rfl rfl rfl (fun _ => hf)) ?_
  refine TL_q rfl rfl (QT_conv rfl rfl Tryz.underlying5 Tryz.underlying3 rfl) ?_
  refine TL_q rfl rfl (QT_geq rfl rfl rfl rfl) ?_
  refine TL_q rfl rfl (QT_assign rfl rfl rfl) ?_
  refine TL_nil ?_
  refine TX_then ?_
  refine TC_ret ?_
  exact TX_ret (.inl rfl) (res1 rfl rfl) ⟨_, ⟨by rw [hw]; congr 1; rw [Bool.eq_iff_iff]; simp; omega, rfl⟩, (fun _ h => by first | exact h | exact h.tail | exact h.tail.tail | exact h.tail.tail.tail | exact h.tail.tail.tail.tail | exact h.tail.tail.tail.tail.tail | exact h.tail.tail.tail.tail.tail.tail | exact h.tail.tail.tail.tail.tail.tail.tail | exact h.tail.tail.tail.tail.tail.tail.tail.tail | exact h.tail.tail.tail.tail.tail.tail.tail.tail.tail | exact h.tail.tail.tail.tail.tail.tail.tail.tail.tail.tail | exact h.tail.tail.tail.tail.tail.tail.tail.tail.tail.tail.tail | exact h.tail.tail.tail.tail.tail.tail.tail.tail.tail.tail.tail.tail | exact h.tail.tail.tail.tail.tail.tail.tail.tail.tail.tail.tail.tail.tail)⟩

theorem index_spec (w0 : Base) (η : Heap) (sv : Value) (n : Nat) (xs : List Value) (hs : SlA (St w0 η) sv 49 n xs) (hi : Ints (rep n sheetK) xs) :
    CallsT Tryz.prog 135 [sv, .func (.func 122) #[] #[]] (St w0 η) fun v A' => (∃ r : Int, v = .int .i64 r ∧ decide (0 ≤ r) = bigB xs n) ∧ A' = St w0 η := by
  obtain ⟨hl, ad, cap, b, off, rfl, hcap, had, hrd⟩ := hs.some
  refine CallsT.body Tryz.func135 rfl rfl ?_
  simp only [Tryz.ntmps135, slotsOf, Nat.reduceAdd]
  refine TC_seq ?_
  refine TC_reg ?_
  refine TL_q rfl rfl (QT_assign rfl rfl rfl) ?_
  refine TL_nil ?_
  refine TX_then ?_
  refine TC_seq ?_
  refine TC_seq ?_
  refine TC_reg ?_
  refine TL_q rfl rfl (QT_move rfl rfl rfl) ?_
  refine TL_q rfl rfl (QT_len rfl rfl Tryz.underlying32 rfl) ?_
  refine TL_q rfl rfl (QT_move rfl rfl rfl) ?_
  refine TL_nil ?_
  refine TX_then ?_
  refine TC_block ?_
  refine TC_loop (γ := { i : Nat // i ≤ n ∧ ∀ j, j < i → flg xs j ≤ 3 }) (fun t => [(0, true, .slice ad n cap), (1, true, .func (.func 122) #[] #[]), (7, true, .int .i64 (n : Int)), (8, true, .int .i64 (t.1 : Int))]) (fun _ => St w0 η) (fun t => n - t.1) ⟨0, by omega, fun j h => by omega⟩ ⟨rfl, rfl, rfl, rfl, trivial⟩ (fun _ h => h) ?_
  rintro ⟨i, hin, hx⟩
  dsimp only
  refine TC_seq ?_
  refine TC_reg ?_
  refine TL_q rfl rfl (QT_lss rfl rfl rfl rfl) ?_
  refine TL_nil ?_
  refine TX_then ?_
  refine TC_seq ?_
  refine TC_cond_dec rfl (fun h9 => ?_) (fun h9 => ?_)
  ·
    have hi' : i < n := by omega
    obtain ⟨hf1, hf2, hf3⟩ := flg_spec hi hi'
    obtain rfl := had (by omega)
    have hle : i * 49 + 49 ≤ xs.length := by rw [hl]; have : (i + 1) * 49 ≤ n * 49 := Nat.mul_le_mul_right _ hi'; omega
    refine TC_skip ?_
    refine TX_then ?_
    refine TC_seq ?_
    refine TC_block ?_
    refine TC_seq ?_
    refine TC_reg ?_
    refine TL_q rfl rfl (QT_move rfl rfl rfl) ?_
    refine TL_q rfl rfl (QT_assign rfl rfl rfl) ?_
    refine TL_nil ?_
    refine TX_then ?_
    refine TC_seq ?_
    refine TC_reg ?_
    refine TL_q rfl rfl (QT_move rfl rfl rfl) ?_
    refine TL_q rfl rfl (QT_move rfl rfl rfl) ?_
    refine TL_q rfl rfl (QT_move rfl rfl rfl) ?_
    refine TL_q rfl rfl (QT_indexSlice (i) rfl rfl Tryz.underlying32 YtjdaglmkljbfkaaGreatDoorF.sz_102 rfl rfl (rfl) (fun _ => hi')) ?_
    refine TL_q rfl rfl (QT_loadRAj (i * 49) rfl rfl Tryz.underlying102 rfl YtjdaglmkljbfkaaGreatDoorF.sz_102 hrd rfl (fun _ => hle) (fun _ => rfl)) ?_
    refine TL_e rfl rfl rfl (rfl) (ET_callV rfl rfl YtjdaglmkljbfkaaGreatDoorF.cal_122 rfl (big_spec w0 _ (elem xs 49 i) (flg xs i) hf2 hf3)) ?_
    rintro _ _ ⟨rfl, rfl⟩
    refine TL_nil ?_
    refine TX_then ?_
    refine TC_cond_dec rfl (fun h16 => ?_) (fun h16 => ?_)
    ·
      refine TC_seq ?_
      refine TC_reg ?_
      refine TL_q rfl rfl (QT_move rfl rfl rfl) ?_
      refine TL_q rfl rfl (QT_assign rfl rfl rfl) ?_
      refine TL_nil ?_
      refine TX_then ?_
      refine TC_ret ?_
      refine TX_block_ret ?_
      refine TX_then_ret ?_
      refine TX_then_ret ?_
      refine TX_block_ret ?_
      refine TX_then_ret ?_
      exact TX_ret (.inl rfl) (res1 rfl rfl) ⟨_, ⟨⟨(i : Int), rfl, by rw [bigB_intro hi' h16]; simp⟩, rfl⟩, fun _ h => h⟩
    ·
      refine TC_skip ?_
      refine TX_block_normal ?_
      refine TX_then ?_
      refine TC_reg ?_
      refine TL_q rfl rfl (QT_add rfl rfl rfl rfl (fun _ => ⟨by omega, by omega⟩)) ?_
      refine TL_q rfl rfl (QT_move rfl rfl rfl) ?_
      refine TL_nil ?_
      exact TX_round ⟨i + 1, by omega, fun j hj => by
        by_cases h : j < i
        · exact hx j h
        · obtain rfl : j = i := by omega
          omega⟩ (by show n - (i + 1) < n - i; omega) ⟨rfl, rfl, rfl, rfl, trivial⟩ (fun _ h => h)
  ·
    refine TC_exit ?_
    refine TX_then_exit ?_
    refine TX_then_exit ?_
    refine TX_block_here ?_
    refine TX_then ?_
    refine TC_seq ?_
    refine TC_reg ?_
    refine TL_q rfl rfl (QT_assign rfl rfl rfl) ?_
    refine TL_nil ?_
    refine TX_then ?_
    refine TC_ret ?_
    exact TX_ret (.inl rfl) (res1 rfl rfl) ⟨_, ⟨⟨-1, rfl, by rw [bigB_none (fun j hj => hx j (by omega))]; rfl⟩, rfl⟩, fun _ h => h⟩
theorem contains_spec (w0 : Base) (η : Heap) (sv : Value) (n : Nat) (xs : List Value) (hs : SlA (St w0 η) sv 49 n xs) (hi : Ints (rep n sheetK) xs) :
    CallsT Tryz.prog 121 [sv, .func (.func 122) #[] #[]] (St w0 η) fun v A' => v = .bool (bigB xs n) ∧ A' = St w0 η := by
  refine CallsT.body Tryz.func121 rfl rfl ?_
  simp only [Tryz.ntmps121, slotsOf, Nat.reduceAdd]
  refine TC_seq ?_
  refine TC_reg ?_
  refine TL_q rfl rfl (QT_assign rfl rfl rfl) ?_
  refine TL_nil ?_
  refine TX_then ?_
  refine TC_seq ?_
  refine TC_reg ?_
  refine TL_q rfl rfl (QT_move rfl rfl rfl) ?_
  refine TL_q rfl rfl (QT_move rfl rfl rfl) ?_
  refine TL_e rfl rfl rfl (rfl) (ET_call rfl YtjdaglmkljbfkaaGreatDoorF.cal_135 rfl (index_spec w0 _ sv n xs hs hi)) ?_
  rintro _ _ ⟨⟨r, rfl, hr⟩, rfl⟩
  refine TL_q rfl rfl (QT_geq rfl rfl rfl rfl) ?_
  refine TL_q rfl rfl (QT_assign rfl rfl rfl) ?_
  refine TL_nil ?_
  refine TX_then ?_
  refine TC_ret ?_
  exact TX_ret (.inl rfl) (res1 rfl rfl) ⟨_, ⟨by rw [← hr], rfl⟩, fun _ h => h⟩

theorem clip_spec (w0 : Base) (η H : Heap) (v : Value) (n : Nat) (xs : List Value) (hF : Frag 112 48 v n xs H) :
    CallsT Tryz.prog 124 [v] (St w0 (H ++ η)) fun v A' => Frag 112 48 v n xs H ∧ A' = St w0 (H ++ η) := by
  obtain ⟨hl, hF⟩ := hF
  rcases hF with ⟨rfl, rfl, rfl⟩ | ⟨b, cap, rest, rfl, hc, hlen, rfl⟩
  · refine CallsT.body Tryz.func124 rfl rfl ?_
    simp only [Tryz.ntmps124, slotsOf, Nat.reduceAdd]
    refine TC_seq ?_
    refine TC_reg ?_
    refine TL_q rfl rfl (QT_assign rfl rfl rfl) ?_
    refine TL_nil ?_
    refine TX_then ?_
    refine TC_seq ?_
    refine TC_reg ?_
    refine TL_q rfl rfl (QT_move rfl rfl rfl) ?_
    refine TL_q rfl rfl (QT_move rfl rfl rfl) ?_
    refine TL_q rfl rfl (QT_len rfl rfl Tryz.underlying62 rfl) ?_
    refine TL_q rfl rfl (QT_move rfl rfl rfl) ?_
    refine TL_q rfl rfl (QT_len rfl rfl Tryz.underlying62 rfl) ?_
    refine TL_q rfl rfl (QT_slcHM (0) (0) rfl rfl rfl Tryz.underlying62 YtjdaglmkljbfkaaGreatDoorF.sz_112 rfl rfl rfl rfl rfl (fun _ => ⟨by omega, by omega⟩)) ?_
    refine TL_q rfl rfl (QT_assign rfl rfl rfl) ?_
    refine TL_nil ?_
    refine TX_then ?_
    refine TC_ret ?_
    exact TX_ret (.inl rfl) (res1 rfl rfl) ⟨_, ⟨⟨hl, .inl ⟨rfl, rfl, rfl⟩⟩, rfl⟩, fun _ h => h⟩
  · refine CallsT.body Tryz.func124 rfl rfl ?_
    simp only [Tryz.ntmps124, slotsOf, Nat.reduceAdd]
    refine TC_seq ?_
    refine TC_reg ?_
    refine TL_q rfl rfl (QT_assign rfl rfl rfl) ?_
    refine TL_nil ?_
    refine TX_then ?_
    refine TC_seq ?_
    refine TC_reg ?_
    refine TL_q rfl rfl (QT_move rfl rfl rfl) ?_
    refine TL_q rfl rfl (QT_move rfl rfl rfl) ?_
    refine TL_q rfl rfl (QT_len rfl rfl Tryz.underlying62 rfl) ?_
    refine TL_q rfl rfl (QT_move rfl rfl rfl) ?_
    refine TL_q rfl rfl (QT_len rfl rfl Tryz.underlying62 rfl) ?_
    refine TL_q rfl rfl (QT_slcHM (n) (n) rfl rfl rfl Tryz.underlying62 YtjdaglmkljbfkaaGreatDoorF.sz_112 rfl rfl rfl rfl rfl (fun _ => ⟨by omega, by omega⟩)) ?_
    refine TL_q rfl rfl (QT_assign rfl rfl rfl) ?_
    refine TL_nil ?_
    refine TX_then ?_
    refine TC_ret ?_
    exact TX_ret (.inl rfl) (res1 rfl rfl) ⟨_, ⟨⟨hl, .inr ⟨b, n, rest, rfl, ⟨Nat.le_refl _, by omega⟩, Nat.le_trans (Nat.mul_le_mul_right _ hc.1) hlen, rfl⟩⟩, rfl⟩, fun _ h => h⟩
theorem e4 {L : Lay} {n : Nat} {xs : List Value} (h : (decide (errOf L ≠ 0) || decide (L.ty < 6)) = true) : errT L n xs = 4 := by
  unfold errT
  rw [if_neg]
  rintro ⟨h1, h2⟩
  simp only [errOf, h1, if_true, ne_eq, not_true, decide_false, Bool.false_or, decide_eq_true_eq] at h
  omega
theorem e4' {L : Lay} (h : (decide (errOf L ≠ 0) || decide (L.ty < 6)) = false) : okB L = true ∧ 6 ≤ L.ty := by
  simp only [Bool.or_eq_false_iff, decide_eq_false_iff_not] at h
  refine ⟨Classical.byContradiction fun hn => h.1 ?_, by omega⟩
  unfold errOf; rw [if_neg hn]; decide
theorem e6 {L : Lay} {n : Nat} {xs : List Value} (h1 : okB L = true ∧ 6 ≤ L.ty) (h : (decide ((0 : Int) < (n : Int)) && decide ((flg xs 0 : Int) ≠ 0)) = true) : errT L n xs = 6 := by
  simp only [Bool.and_eq_true, decide_eq_true_eq] at h
  unfold errT
  rw [if_pos h1, if_pos ⟨by omega, by omega⟩]
theorem e6' {n : Nat} {xs : List Value} (h : (decide ((0 : Int) < (n : Int)) && decide ((flg xs 0 : Int) ≠ 0)) = false) : ¬ (0 < n ∧ flg xs 0 ≠ 0) := by
  rintro ⟨a, b⟩
  simp only [Bool.and_eq_false_iff, decide_eq_false_iff_not] at h
  omega
theorem fragErr {L : Lay} {n : Nat} {xs : List Value} {e : Int} (h : errT L n xs = e) (h0 : e ≠ 0) : Frag 112 48 (.slice none 0 0) (cntT L n xs) (outT L n xs) [] := by
  unfold cntT outT
  rw [if_neg (by rw [h]; exact h0), if_neg (by rw [h]; exact h0)]
  exact Frag.nil _ _

theorem of_spec (w0 : Base) (η : Heap) (hG : Sets w0) (hE : Edges w0) (L : Lay) (sv : Value) (n : Nat) (xs : List Value) (hs : SlA (St w0 η) sv 49 n xs) (hi : Ints (rep n sheetK) xs) (hn : n * 160 ≤ 140737488355328) :
    CallsT Tryz.prog 82 [L.val, sv] (St w0 η) fun v A' => ∃ pv H, v = .tuple #[pv, .int .i64 (errT L n xs)] ∧ Frag 112 48 pv (cntT L n xs) (outT L n xs) H ∧ A' = St w0 (H ++ η) := by
  obtain ⟨hl, ad, cap, b, off, rfl, hcap, had, hrd⟩ := hs.some
  refine CallsT.body Tryz.func82 rfl rfl ?_
  simp only [Tryz.ntmps82, slotsOf, Nat.reduceAdd]
  refine TC_seq ?_
  refine TC_reg ?_
  refine TL_e rfl rfl rfl (rfl) (ET_box rfl rfl) ?_
  rintro _ _ ⟨b2, rfl, rfl⟩
  refine TL_q rfl rfl (QT_assign rfl rfl rfl) ?_
  refine TL_q rfl rfl (QT_assign rfl rfl rfl) ?_
  refine TL_nil ?_
  refine TX_then ?_
  refine TC_seq ?_
  refine TC_block ?_
  refine TC_seq ?_
  refine TC_reg ?_
  refine TL_q rfl rfl (QT_loadW 0 rfl rfl Tryz.underlying27 rfl rfl rfl YtjdaglmkljbfkaaGreatDoorF.sz_27) ?_
  refine TL_cq rfl rfl rfl rfl YtjdaglmkljbfkaaGreatDoorF.cal_26 rfl (fun _ => check_spec w0 _ hG L) ?_
  refine TL_q rfl rfl (QT_neq rfl rfl rfl rfl) ?_
  refine TL_q rfl rfl (QT_move rfl rfl rfl) ?_
  refine TL_q rfl rfl (QT_field rfl rfl YtjdaglmkljbfkaaGreatDoorF.fld_27_0 rfl) ?_
  refine TL_q rfl rfl (QT_load 0 rfl rfl Tryz.underlying3 rfl rfl rfl (fun _ => rfl)) ?_
  refine TL_q rfl rfl (QT_lss rfl rfl rfl rfl) ?_
  refine TL_q rfl rfl (QT_or rfl rfl rfl rfl) ?_
  refine TL_q rfl rfl (QT_assign rfl rfl rfl) ?_
  refine TL_nil ?_
  refine TX_then ?_
  refine TC_cond rfl (fun h11 => ?_) (fun h11 => ?_)
  ·
    refine TC_seq ?_
    refine TC_reg ?_
    refine TL_q rfl rfl (QT_assign rfl rfl rfl) ?_
    refine TL_q rfl rfl (QT_assign rfl rfl rfl) ?_
    refine TL_nil ?_
    refine TX_then ?_
    refine TC_ret ?_
    refine TX_block_ret ?_
    refine TX_then_ret ?_
    exact TX_ret (.inl rfl) (res2 rfl rfl rfl) ⟨_, ⟨_, [], by rw [e4 h11], fragErr (e4 h11) (by decide), rfl⟩, (fun _ h => by first | exact h | exact h.tail | exact h.tail.tail | exact h.tail.tail.tail | exact h.tail.tail.tail.tail | exact h.tail.tail.tail.tail.tail | exact h.tail.tail.tail.tail.tail.tail | exact h.tail.tail.tail.tail.tail.tail.tail | exact h.tail.tail.tail.tail.tail.tail.tail.tail | exact h.tail.tail.tail.tail.tail.tail.tail.tail.tail | exact h.tail.tail.tail.tail.tail.tail.tail.tail.tail.tail | exact h.tail.tail.tail.tail.tail.tail.tail.tail.tail.tail.tail | exact h.tail.tail.tail.tail.tail.tail.tail.tail.tail.tail.tail.tail | exact h.tail.tail.tail.tail.tail.tail.tail.tail.tail.tail.tail.tail.tail)⟩
  ·
    refine TC_seq ?_
    refine TC_reg ?_
    refine TL_q rfl rfl (QT_move rfl rfl rfl) ?_
    refine TL_q rfl rfl (QT_len rfl rfl Tryz.underlying32 rfl) ?_
    refine TL_q rfl rfl (QT_gtr rfl rfl rfl rfl) ?_
    refine TL_q rfl rfl (QT_move rfl rfl rfl) ?_
    refine TL_q rfl rfl (QT_move rfl rfl rfl) ?_
    refine TL_q rfl rfl (QT_indexG 0 rfl rfl Tryz.underlying32 YtjdaglmkljbfkaaGreatDoorF.sz_102 rfl rfl rfl (fun h => by simpa using h) (fun h => had (by simpa using h))) ?_
    refine TL_q rfl rfl (QT_field rfl rfl YtjdaglmkljbfkaaGreatDoorF.fld_102_0 rfl) ?_
    refine TL_q rfl rfl (QT_loadRj (0 * 49) rfl rfl Tryz.underlying5 rfl (hrd.mono fun _ h => h.tail) rfl (fun h => (flg_spec hi (by simpa using h)).1)) ?_
    refine TL_q rfl rfl (QT_neq rfl rfl rfl rfl) ?_
    refine TL_q rfl rfl (QT_and rfl rfl rfl rfl) ?_
    refine TL_q rfl rfl (QT_assign rfl rfl rfl) ?_
    refine TL_nil ?_
    refine TX_then ?_
    refine TC_cond rfl (fun h20 => ?_) (fun h20 => ?_)
    ·
      refine TC_seq ?_
      refine TC_reg ?_
      refine TL_q rfl rfl (QT_assign rfl rfl rfl) ?_
      refine TL_q rfl rfl (QT_assign rfl rfl rfl) ?_
      refine TL_nil ?_
      refine TX_then ?_
      refine TC_ret ?_
      refine TX_block_ret ?_
      refine TX_then_ret ?_
      exact TX_ret (.inl rfl) (res2 rfl rfl rfl) ⟨_, ⟨_, [], by rw [e6 (e4' h11) h20], fragErr (e6 (e4' h11) h20) (by decide), rfl⟩, (fun _ h => by first | exact h | exact h.tail | exact h.tail.tail | exact h.tail.tail.tail | exact h.tail.tail.tail.tail | exact h.tail.tail.tail.tail.tail | exact h.tail.tail.tail.tail.tail.tail | exact h.tail.tail.tail.tail.tail.tail.tail | exact h.tail.tail.tail.tail.tail.tail.tail.tail | exact h.tail.tail.tail.tail.tail.tail.tail.tail.tail | exact h.tail.tail.tail.tail.tail.tail.tail.tail.tail.tail | exact h.tail.tail.tail.tail.tail.tail.tail.tail.tail.tail.tail | exact h.tail.tail.tail.tail.tail.tail.tail.tail.tail.tail.tail.tail | exact h.tail.tail.tail.tail.tail.tail.tail.tail.tail.tail.tail.tail.tail)⟩
    ·
      refine TC_seq ?_
      refine TC_reg ?_
      refine TL_q rfl rfl (QT_move rfl rfl rfl) ?_
      refine TL_cq rfl rfl rfl rfl YtjdaglmkljbfkaaGreatDoorF.cal_121 rfl (fun _ => contains_spec w0 _ _ n xs hs.tail hi) ?_
      refine TL_q rfl rfl (QT_assign rfl rfl rfl) ?_
      refine TL_nil ?_
      refine TX_then ?_
      refine TC_cond rfl (fun h31 => ?_) (fun h31 => ?_)
      ·
        refine TC_seq ?_
        refine TC_reg ?_
        refine TL_q rfl rfl (QT_assign rfl rfl rfl) ?_
        refine TL_q rfl rfl (QT_assign rfl rfl rfl) ?_
        refine TL_nil ?_
        refine TX_then ?_
        refine TC_ret ?_
        refine TX_block_ret ?_
        refine TX_then_ret ?_
        have e7 : errT L n xs = 7 := by unfold errT; rw [if_pos (e4' h11), if_neg (e6' h20), if_pos h31]
        exact TX_ret (.inl rfl) (res2 rfl rfl rfl) ⟨_, ⟨_, [], by rw [e7], fragErr e7 (by decide), rfl⟩, (fun _ h => by first | exact h | exact h.tail | exact h.tail.tail | exact h.tail.tail.tail | exact h.tail.tail.tail.tail | exact h.tail.tail.tail.tail.tail | exact h.tail.tail.tail.tail.tail.tail | exact h.tail.tail.tail.tail.tail.tail.tail | exact h.tail.tail.tail.tail.tail.tail.tail.tail | exact h.tail.tail.tail.tail.tail.tail.tail.tail.tail | exact h.tail.tail.tail.tail.tail.tail.tail.tail.tail.tail | exact h.tail.tail.tail.tail.tail.tail.tail.tail.tail.tail.tail | exact h.tail.tail.tail.tail.tail.tail.tail.tail.tail.tail.tail.tail | exact h.tail.tail.tail.tail.tail.tail.tail.tail.tail.tail.tail.tail.tail)⟩
      ·
        refine TC_skip ?_
        refine TX_block_normal ?_
        refine TX_then ?_
        refine TC_seq ?_
        have e0 : errT L n xs = 0 := by unfold errT; rw [if_pos (e4' h11), if_neg (e6' h20), if_neg (by rw [h31]; decide)]
        refine TC_reg ?_
        refine TL_q rfl rfl (QT_assign rfl rfl rfl) ?_
        refine TL_nil ?_
        refine TX_then ?_
        refine TC_cut (γ := Unit) (fun _ => [(1, true, .slice ad n cap), (6, true, .int .i64 ((ptsT L : Nat) : Int))]) (fun _ => St w0 ((b2, 27, L.cells) :: η)) ?_ ?_
        ·
          refine TC_seq ?_
          refine TC_reg ?_
          refine TL_q rfl rfl (QT_field rfl rfl YtjdaglmkljbfkaaGreatDoorF.fld_27_0 rfl) ?_
          refine TL_q rfl rfl (QT_load 0 rfl rfl Tryz.underlying3 rfl rfl rfl (fun _ => rfl)) ?_
          refine TL_q rfl rfl (QT_eql rfl rfl rfl rfl) ?_
          refine TL_nil ?_
          refine TX_then ?_
          refine TC_cond_dec rfl (fun h36 => ?_) (fun h36 => ?_)
          ·
            refine TC_reg ?_
            refine TL_q rfl rfl (QT_assign rfl rfl rfl) ?_
            refine TL_nil ?_
            exact TX_cut () ⟨rfl, slotI rfl (by unfold ptsT; rw [if_pos h36]; rfl), trivial⟩ (fun _ h => h)
          ·
            refine TC_skip ?_
            exact TX_cut () ⟨rfl, slotI rfl (by unfold ptsT; rw [if_neg h36]; rfl), trivial⟩ (fun _ h => h)
        rintro ⟨⟩
        have hbf := (errT_zero e0).2.2.2
        refine TC_seq ?_
        refine TC_reg ?_
        refine TL_q rfl rfl (QT_assign rfl rfl rfl) ?_
        refine TL_nil ?_
        refine TX_then ?_
        refine TC_seq ?_
        refine TC_reg ?_
        refine TL_e rfl rfl rfl (rfl) (ET_alloc rfl YtjdaglmkljbfkaaGreatDoorF.zero_112) ?_
        rintro _ _ ⟨b8, rfl, rfl⟩
        refine TL_nil ?_
        refine TX_then ?_
        refine TC_seq ?_
        refine TC_seq ?_
        refine TC_reg ?_
        refine TL_q rfl rfl (QT_move rfl rfl rfl) ?_
        refine TL_q rfl rfl (QT_len rfl rfl Tryz.underlying32 rfl) ?_
        refine TL_q rfl rfl (QT_move rfl rfl rfl) ?_
        refine TL_nil ?_
        refine TX_then ?_
        refine TC_block ?_
        refine TC_loop (γ := { t : Nat × Value × Heap // t.1 ≤ n ∧ Frag 112 48 t.2.1 t.1 (tilesC (ptsT L) xs t.1) t.2.2 }) (fun t => [(6, true, .int .i64 ((ptsT L : Nat) : Int)), (7, true, t.1.2.1), (8, true, .pointer (some ⟨b8, 0, none⟩)), (37, true, .slice ad n cap), (38, true, .int .i64 (n : Int)), (39, true, .int .i64 (t.1.1 : Int))]) (fun t => St w0 ((b8, 112, tileB (ptsT L) xs t.1.1) :: (t.1.2.2 ++ η))) (fun t => n - t.1.1) ⟨(0, .slice none 0 0, []), Nat.zero_le _, Frag.nil _ _⟩ ⟨rfl, rfl, rfl, rfl, rfl, rfl, trivial⟩ (fun _ h => (St.swap h).tail) ?_
        rintro ⟨⟨i, fv, H⟩, hin, hF⟩
        dsimp only at hin hF ⊢
        refine TC_seq ?_
        refine TC_reg ?_
        refine TL_q rfl rfl (QT_lss rfl rfl rfl rfl) ?_
        refine TL_nil ?_
        refine TX_then ?_
        refine TC_seq ?_
        refine TC_cond_dec rfl (fun h40 => ?_) (fun h40 => ?_)
        ·
          have hi' : i < n := by omega
          obtain ⟨hf1, hf2, hf3⟩ := flg_spec hi hi'
          obtain rfl := had (by omega)
          have hle : i * 49 + 49 ≤ xs.length := by rw [hl]; have : (i + 1) * 49 ≤ n * 49 := Nat.mul_le_mul_right _ hi'; omega
          have hei : Ints sheetK (elem xs 49 i) := hi.elem hi'
          have hti := tileB_ints hi (ptsT_or L) hbf i hin
          have hwi : Ints patchK (wholeC (ptsT L) (flg xs i) (elem xs 49 i) (tileB (ptsT L) xs i)) := tileB_ints hi (ptsT_or L) hbf (i + 1) hi'
          have hels : (elem xs 49 i).length = 49 := hei.length
          have htls : (tileB (ptsT L) xs i).length = 48 := hti.length
          have hwls : (wholeC (ptsT L) (flg xs i) (elem xs 49 i) (tileB (ptsT L) xs i)).length = 48 := hwi.length
          have hzs : Sz Tryz.prog 102 (elem xs 49 i).length := by rw [hels]; exact YtjdaglmkljbfkaaGreatDoorF.sz_102
          have hzt : Sz Tryz.prog 112 (tileB (ptsT L) xs i).length := by rw [htls]; exact YtjdaglmkljbfkaaGreatDoorF.sz_112
          have hzw : Sz Tryz.prog 112 (wholeC (ptsT L) (flg xs i) (elem xs 49 i) (tileB (ptsT L) xs i)).length := by rw [hwls]; exact YtjdaglmkljbfkaaGreatDoorF.sz_112
          refine TC_skip ?_
          refine TX_then ?_
          refine TC_seq ?_
          refine TC_block ?_
          refine TC_seq ?_
          refine TC_reg ?_
          refine TL_q rfl rfl (QT_indexSlice (i) rfl rfl Tryz.underlying32 YtjdaglmkljbfkaaGreatDoorF.sz_102 rfl rfl (rfl) (fun _ => hi')) ?_
          refine TL_q rfl rfl (QT_loadRAj (out := elem xs 49 i) (i * 49) rfl rfl Tryz.underlying102 rfl YtjdaglmkljbfkaaGreatDoorF.sz_102 (hrd.mono fun _ h => h.tail.app_right) rfl (fun _ => hle) (fun _ => rfl)) ?_
          refine TL_e rfl rfl rfl (rfl) (ET_alloc rfl YtjdaglmkljbfkaaGreatDoorF.zero_102) ?_
          rintro _ _ ⟨b10, rfl, rfl⟩
          refine TL_e0 rfl rfl (rfl) (ET_storeW (vs := elem xs 49 i) 0 rfl rfl rfl hzs rfl (List.all_eq_true.2 hei.oneCell) (by rw [hels]; rfl)) ?_
          rintro _ _ ⟨rfl, rfl⟩
          refine TL_nil ?_
          refine TX_then ?_
          refine TC_seq ?_
          refine TC_reg ?_
          refine TL_q rfl rfl (QT_loadW (cs := elem xs 49 i) 0 rfl rfl Tryz.underlying102 rfl rfl rfl hzs) ?_
          refine TL_q rfl rfl (QT_loadW 1 rfl rfl Tryz.underlying112 rfl rfl rfl hzt) ?_
          refine TL_q rfl rfl (QT_move rfl rfl rfl) ?_
          refine TL_e rfl rfl rfl (rfl) (ET_call rfl YtjdaglmkljbfkaaGreatDoorF.cal_123 rfl (whole_spec w0 _ hE (elem xs 49 i) (tileB (ptsT L) xs i) (ptsT L) (flg xs i) hei hti (ptsT_or L) hf2 (hbf i hi'))) ?_
          rintro _ _ ⟨rfl, rfl⟩
          refine TL_e0 rfl rfl (rfl) (ET_storeW (vs := wholeC (ptsT L) (flg xs i) (elem xs 49 i) (tileB (ptsT L) xs i)) 1 rfl rfl rfl hzw rfl (List.all_eq_true.2 hwi.oneCell) (by rw [hwls, htls]; rfl)) ?_
          rintro _ _ ⟨rfl, rfl⟩
          refine TL_nil ?_
          refine TX_then ?_
          refine TC_reg ?_
          refine TL_q rfl rfl (QT_move rfl rfl rfl) ?_
          refine TL_q rfl rfl (QT_loadW (cs := wholeC (ptsT L) (flg xs i) (elem xs 49 i) (tileB (ptsT L) xs i)) 1 rfl rfl Tryz.underlying112 rfl rfl rfl hzw) ?_
          refine TL_e rfl rfl rfl (rfl) (ET_buildN [_] rfl Tryz.underlying62 YtjdaglmkljbfkaaGreatDoorF.sz_112 YtjdaglmkljbfkaaGreatDoorF.zero_112 rfl rfl rfl (fun v hv => by cases List.mem_singleton.1 hv; exact hwls)) ?_
          rintro _ _ ⟨b49, rfl, rfl⟩
          refine TL_e rfl rfl rfl (rfl) (ET_appendL (L := [_, _, _]) rfl Tryz.underlying62 el_Patch rfl rfl hF (fun _ h => h) (SlA.own (n := 1) (xs := wholeC (ptsT L) (flg xs i) (elem xs 49 i) (tileB (ptsT L) xs i)) 0 rfl (by rw [List.drop_zero, List.take_of_length_le (by simp [Value.cells, hwls])]; simp [Value.cells]) (by simp [Value.cells, hwls]) (by omega)) hwi.oneCell (by omega) (by omega)) ?_
          rintro fv2 _ ⟨H', hF', rfl⟩
          refine TL_q rfl rfl (QT_assign rfl rfl rfl) ?_
          refine TL_nil ?_
          refine TX_block_normal ?_
          refine TX_then ?_
          refine TC_reg ?_
          refine TL_q rfl rfl (QT_add rfl rfl rfl rfl (fun _ => ⟨by omega, by omega⟩)) ?_
          refine TL_q rfl rfl (QT_move rfl rfl rfl) ?_
          refine TL_nil ?_
          exact TX_round ⟨(i + 1, fv2, H'), hi', hF'⟩ (by show n - (i + 1) < n - i; omega) ⟨rfl, rfl, rfl, rfl, rfl, rfl, trivial⟩ (fun _ h => h.tail.tail)
        ·
          refine TC_exit ?_
          refine TX_then_exit ?_
          refine TX_then_exit ?_
          refine TX_block_here ?_
          refine TX_then ?_
          refine TC_seq ?_
          refine TC_reg ?_
          refine TL_q rfl rfl (QT_move rfl rfl rfl) ?_
          refine TL_A (St w0 (H ++ η)) (fun _ h => h.tail) ?_
          refine TL_e rfl rfl rfl (rfl) (ET_call rfl YtjdaglmkljbfkaaGreatDoorF.cal_124 rfl (clip_spec w0 η H fv i _ hF)) ?_
          rintro cv _ ⟨hF2, rfl⟩
          refine TL_q rfl rfl (QT_assign rfl rfl rfl) ?_
          refine TL_q rfl rfl (QT_assign rfl rfl rfl) ?_
          refine TL_nil ?_
          refine TX_then ?_
          refine TC_ret ?_
          obtain rfl : i = n := by omega
          exact TX_ret (.inl rfl) (res2 rfl rfl rfl) ⟨_, ⟨cv, H, by rw [e0], by unfold cntT outT; rw [if_pos e0, if_pos e0]; exact hF2, rfl⟩, fun _ h => h⟩
end Go.Proofs.YtjdaglmkljbfkaaGreatDoor.T12

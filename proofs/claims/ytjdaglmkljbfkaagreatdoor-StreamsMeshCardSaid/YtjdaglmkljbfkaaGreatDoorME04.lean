/- THE BOOK: a list of vertices, of triangles more. THE BOOK: fill, grow, marked, for lists of bytes. THE BOOK: a list of bytes more. RECORDS: their numbers, their bits; records of bytes, bytes of records, by definition. Plain. RECORDS: the check; the fields, and how each is read and set. RECORDS: how a field is read and set; numbers read one behind the other. BYTES OF RECORDS: the walk. RECORDS: slices.Chunk, and the function that it gives. RECORDS OF BYTES: the walk. THE DOCUMENT's RECORDS OF BYTES: the walk. THE DOCUMENT's BYTES OF RECORDS: the walk. THE CHAPTER's EXAMPLES OF RECORDS. (the book's Apart stands in a later text) THE LAWS OF THE RECORDS that ask the document's answer. RECORDS CUT DOWN to what a layout has room for; THE LAW: what has room is put, and got as it was; without the last byte it is not. THE LAW: what has room is put, and got as it was; without the last byte it is not. THE LAW: bytes that are got are put as the same, but for what fills each record's last byte. THE LAW: each record is got, and put, alone as among the others. HANDS: a reader of bytes, a layer of bits; a number of another kind through a hand. A SHEET's numbers; how many it tells; a number of another kind through a hand. -/
import Derived.Test.YtjdaglmkljbfkaaGreatDoorME03
namespace Go.Proofs.YtjdaglmkljbfkaaGreatDoor
open Go Go.Gx Go.RowKit
set_option maxRecDepth 100000
def rcMark (c : Int) : List Value := .int .u8 0 :: .int .u32 c :: zs (recK.drop 2)
def trMark (c : Int) : List Value := .int .u8 0 :: .int .u32 c :: zs (triK.drop 2)
theorem rcMark_ints {c : Int} (h : 0 ≤ c ∧ c ≤ 2000) : Ints recK (rcMark c) :=
 show Ints (.u8 :: .u32 :: recK.drop 2) (rcMark c) from .cons (by decide) (.cons (u32_wf h) (zs_ints _))
theorem trMark_ints {c : Int} (h : 0 ≤ c ∧ c ≤ 2000) : Ints triK (trMark c) :=
 show Ints (.u8 :: .u32 :: triK.drop 2) (trMark c) from .cons (by decide) (.cons (u32_wf h) (zs_ints _))
theorem el_stripRec : ElemOk Tryz.prog 186 9 72 (.agg (nilS :: nilS :: zs recK).toArray) := .of KF.sz_186 (by kernel_rfl) (by unfold ZeroOk; kernel_rfl) (by kernel_rfl) (by decide)
theorem book_Recs (w0 : Base) (η H : Heap) (kb : Nat) (k : Bk) (ss : List Strip) (v : Value) (n : Nat) (xs : List Value) (Hv : Heap) (h0 : 0 ≤ k.many ∧ k.many ≤ 1000) (hF : Frag 186 9 k.recs ss.length (arrOf ss) H) (hs : ∀ s ∈ ss, s.ok 77 7 recK) (hsl : ss.length ≤ 1000) (hv : ∃ ad n cap, v = .slice ad n cap) :
    CallsT Tryz.prog 32 [.pointer (some ⟨kb, 0, none⟩), v] (St w0 ((kb, 52, k.cells) :: (H ++ η))) fun _ A' => ∃ r H', Frag 186 9 r (ss.length + 1) (arrOf (ss ++ [⟨v, n, xs, nilS, rcMark (k.many + 1), Hv⟩])) H' ∧ A' = St w0 ((kb, 52, { k with many := k.many + 1, recs := r }.cells) :: (H' ++ η)) := by
  obtain ⟨vad, vn, vcap, rfl⟩ := hv
  obtain ⟨fad, fcap, hfv, hfc, _⟩ := hF.slice
  have hwr : IntKind.u32.wrap (k.many + 1) = k.many + 1 := IntWalk.u32_in _ ⟨by omega, by omega⟩
  have hmi := rcMark_ints (c := k.many + 1) (by omega)
  refine CallsT.body Tryz.func32 rfl rfl ?_
  simp only [Tryz.ntmps32, slotsOf, Nat.reduceAdd]
  refine TC_draw [(0, 0), (1, 0), (2, 0), (3, 0), (4, 0), (5, 0), (6, 0), (7, 1), (8, 0), (9, 0), (10, 0), (11, 0), (12, 1), (13, 1), (14, 0), (15, 0), (16, 1)] KF.mixed (by kernel_rfl) (St.calm _ _) ?_
  refine Qk rfl rfl rfl (fun _ => Qc rfl rfl rfl) ?_
  refine Qk rfl rfl rfl (fun _ => Qc rfl rfl rfl) ?_
  refine Qk rfl rfl rfl (fun _ => Qv rfl rfl rfl) ?_
  refine Qk rfl rfl rfl (fun _ => Qh rfl rfl KF.fld_52_4 rfl) ?_
  refine Qz rfl rfl rfl (Qj 0 rfl rfl Tryz.underlying41 rfl rfl rfl (fun _ => rfl)) ?_
  refine Qk rfl rfl rfl (fun _ => Qc rfl rfl rfl) ?_
  refine Qk rfl rfl rfl (fun _ => Qc rfl rfl rfl) ?_
  refine TV_e rfl rfl rfl rfl (rfl) (ET_call rfl KF.cal_31 rfl (next_spec w0 _ kb k h0)) ?_
  rintro _ _ ⟨rfl, rfl⟩
  refine ⟨_, .keep (by kernel_rfl) rfl (by first | exact Qj 0 rfl rfl Tryz.underlying41 rfl rfl rfl (fun _ => rfl) | exact Qj 1 rfl rfl Tryz.underlying41 rfl rfl rfl (fun _ => rfl) | exact Qj 2 rfl rfl Tryz.underlying41 rfl rfl rfl (fun _ => rfl)) (.nil), ?_⟩
  refine Qk rfl rfl rfl (fun _ => QT_convN rfl rfl Tryz.underlying3 Tryz.underlying70 rfl hwr) ?_
  refine Qk rfl rfl rfl (fun _ => QT_build rfl rfl KF.zero_72 KF.pl_72 rfl rfl rfl) ?_
  refine Qk rfl rfl rfl (fun _ => QT_build rfl rfl KF.zero_77 KF.pl_77 rfl rfl rfl) ?_
  refine Qk rfl rfl rfl (fun _ => QT_build rfl rfl KF.zero_186 KF.pl_186 rfl rfl rfl) ?_
  refine TV_e rfl rfl rfl rfl (rfl) (ET_buildN [_] rfl Tryz.underlying41 KF.sz_186 KF.zero_186 rfl rfl rfl (fun v hv => by cases List.mem_singleton.1 hv; rfl)) ?_
  rintro _ _ ⟨bP, rfl, rfl⟩
  refine ⟨_, .keep (by kernel_rfl) rfl (by first | exact Qj 0 rfl rfl Tryz.underlying41 rfl rfl rfl (fun _ => rfl) | exact Qj 1 rfl rfl Tryz.underlying41 rfl rfl rfl (fun _ => rfl) | exact Qj 2 rfl rfl Tryz.underlying41 rfl rfl rfl (fun _ => rfl)) (.nil), ?_⟩
  refine TV_e rfl rfl rfl rfl (rfl) (ET_appendL (L := [_, _]) rfl Tryz.underlying41 el_stripRec rfl rfl hF (fun _ h => h) (SlA.own (n := 1) (xs := .slice vad vn vcap :: nilS :: rcMark (k.many + 1)) 0 rfl rfl (Nat.le_refl _) (by omega)) (fun u hu => by
   rcases List.mem_cons.1 hu with rfl | hu
   · rfl
   · rcases List.mem_cons.1 hu with rfl | hu
     · rfl
     · exact hmi.oneCell u hu) (by omega) (by omega)) ?_
  rintro r _ ⟨H', hF', rfl⟩
  refine ⟨_, .drop (by kernel_rfl) (.nil), ?_⟩
  obtain ⟨rad, rcap, rfl, _, _⟩ := hF'.slice
  refine Qk rfl rfl rfl (fun _ => Qv rfl rfl rfl) ?_
  refine Qk rfl rfl rfl (fun _ => Qh rfl rfl KF.fld_52_4 rfl) ?_
  refine TV_e0 rfl rfl rfl (rfl) (ET_store 1 rfl rfl rfl rfl KF.sz_41 rfl rfl rfl) ?_
  rintro _ _ ⟨rfl, rfl⟩
  refine ⟨_, .nil, ?_⟩
  refine TV_end ?_
  refine Qs (.inr rfl) (res0 rfl) ⟨_, ⟨.slice rad (ss.length + 1) rcap, H', by rw [arrOf_append]; simpa [arrOf, Strip.cells] using hF', rfl⟩, fun w h => ?_⟩
  have h2 : St w0 ((bP, 186, _) :: (kb, 52, { k with many := k.many + 1, recs := .slice rad (ss.length + 1) rcap }.cells) :: (H' ++ η)) w := h
  exact h2.tail
theorem el_stripTri : ElemOk Tryz.prog 160 23 112 (.agg (nilS :: nilS :: zs triK).toArray) := .of KF.sz_160 (by kernel_rfl) (by unfold ZeroOk; kernel_rfl) (by kernel_rfl) (by decide)
theorem book_Tris (w0 : Base) (η H : Heap) (kb : Nat) (k : Bk) (ss : List Strip) (v : Value) (n : Nat) (xs : List Value) (Hv : Heap) (h0 : 0 ≤ k.many ∧ k.many ≤ 1000) (hF : Frag 160 23 k.tris ss.length (arrOf ss) H) (hs : ∀ s ∈ ss, s.ok 79 21 triK) (hsl : ss.length ≤ 1000) (hv : ∃ ad n cap, v = .slice ad n cap) :
    CallsT Tryz.prog 19 [.pointer (some ⟨kb, 0, none⟩), v] (St w0 ((kb, 52, k.cells) :: (H ++ η))) fun _ A' => ∃ r H', Frag 160 23 r (ss.length + 1) (arrOf (ss ++ [⟨v, n, xs, nilS, trMark (k.many + 1), Hv⟩])) H' ∧ A' = St w0 ((kb, 52, { k with many := k.many + 1, tris := r }.cells) :: (H' ++ η)) := by
  obtain ⟨vad, vn, vcap, rfl⟩ := hv
  obtain ⟨fad, fcap, hfv, hfc, _⟩ := hF.slice
  have hwr : IntKind.u32.wrap (k.many + 1) = k.many + 1 := IntWalk.u32_in _ ⟨by omega, by omega⟩
  have hmi := trMark_ints (c := k.many + 1) (by omega)
  refine CallsT.body Tryz.func19 rfl rfl ?_
  simp only [Tryz.ntmps19, slotsOf, Nat.reduceAdd]
  refine TC_draw [(0, 0), (1, 0), (2, 0), (3, 0), (4, 0), (5, 0), (6, 0), (7, 1), (8, 0), (9, 0), (10, 0), (11, 0), (12, 0), (13, 1), (14, 1), (15, 0), (16, 0), (17, 1)] KF.mixed (by kernel_rfl) (St.calm _ _) ?_
  refine Qk rfl rfl rfl (fun _ => Qc rfl rfl rfl) ?_
  refine Qk rfl rfl rfl (fun _ => Qc rfl rfl rfl) ?_
  refine Qk rfl rfl rfl (fun _ => Qv rfl rfl rfl) ?_
  refine Qk rfl rfl rfl (fun _ => Qh rfl rfl KF.fld_52_5 rfl) ?_
  refine Qz rfl rfl rfl (Qj 0 rfl rfl Tryz.underlying42 rfl rfl rfl (fun _ => rfl)) ?_
  refine Qk rfl rfl rfl (fun _ => Qc rfl rfl rfl) ?_
  refine Qk rfl rfl rfl (fun _ => Qc rfl rfl rfl) ?_
  refine TV_e rfl rfl rfl rfl (rfl) (ET_call rfl KF.cal_31 rfl (next_spec w0 _ kb k h0)) ?_
  rintro _ _ ⟨rfl, rfl⟩
  refine ⟨_, .keep (by kernel_rfl) rfl (by first | exact Qj 0 rfl rfl Tryz.underlying42 rfl rfl rfl (fun _ => rfl) | exact Qj 1 rfl rfl Tryz.underlying42 rfl rfl rfl (fun _ => rfl) | exact Qj 2 rfl rfl Tryz.underlying42 rfl rfl rfl (fun _ => rfl)) (.nil), ?_⟩
  refine Qk rfl rfl rfl (fun _ => QT_convN rfl rfl Tryz.underlying3 Tryz.underlying70 rfl hwr) ?_
  refine Qk rfl rfl rfl (fun _ => QT_build rfl rfl KF.zero_72 KF.pl_72 rfl rfl rfl) ?_
  refine Qk rfl rfl rfl (fun _ => QT_build rfl rfl KF.zero_77 KF.pl_77 rfl rfl rfl) ?_
  refine Qk rfl rfl rfl (fun _ => QT_buildArr rfl rfl KF.zero_79 Tryz.underlying79 KF.sz_77 rfl rfl rfl) ?_
  refine Qk rfl rfl rfl (fun _ => QT_build rfl rfl KF.zero_160 KF.pl_160 rfl rfl rfl) ?_
  refine TV_e rfl rfl rfl rfl (rfl) (ET_buildN [_] rfl Tryz.underlying42 KF.sz_160 KF.zero_160 rfl rfl rfl (fun v hv => by cases List.mem_singleton.1 hv; rfl)) ?_
  rintro _ _ ⟨bP, rfl, rfl⟩
  refine ⟨_, .keep (by kernel_rfl) rfl (by first | exact Qj 0 rfl rfl Tryz.underlying42 rfl rfl rfl (fun _ => rfl) | exact Qj 1 rfl rfl Tryz.underlying42 rfl rfl rfl (fun _ => rfl) | exact Qj 2 rfl rfl Tryz.underlying42 rfl rfl rfl (fun _ => rfl)) (.nil), ?_⟩
  refine TV_e rfl rfl rfl rfl (rfl) (ET_appendL (L := [_, _]) rfl Tryz.underlying42 el_stripTri rfl rfl hF (fun _ h => h) (SlA.own (n := 1) (xs := .slice vad vn vcap :: nilS :: trMark (k.many + 1)) 0 rfl rfl (Nat.le_refl _) (by omega)) (fun u hu => by
   rcases List.mem_cons.1 hu with rfl | hu
   · rfl
   · rcases List.mem_cons.1 hu with rfl | hu
     · rfl
     · exact hmi.oneCell u hu) (by omega) (by omega)) ?_
  rintro r _ ⟨H', hF', rfl⟩
  refine ⟨_, .drop (by kernel_rfl) (.nil), ?_⟩
  obtain ⟨rad, rcap, rfl, _, _⟩ := hF'.slice
  refine Qk rfl rfl rfl (fun _ => Qv rfl rfl rfl) ?_
  refine Qk rfl rfl rfl (fun _ => Qh rfl rfl KF.fld_52_5 rfl) ?_
  refine TV_e0 rfl rfl rfl (rfl) (ET_store 1 rfl rfl rfl rfl KF.sz_42 rfl rfl rfl) ?_
  rintro _ _ ⟨rfl, rfl⟩
  refine ⟨_, .nil, ?_⟩
  refine TV_end ?_
  refine Qs (.inr rfl) (res0 rfl) ⟨_, ⟨.slice rad (ss.length + 1) rcap, H', by rw [arrOf_append]; simpa [arrOf, Strip.cells] using hF', rfl⟩, fun w h => ?_⟩
  have h2 : St w0 ((bP, 160, _) :: (kb, 52, { k with many := k.many + 1, tris := .slice rad (ss.length + 1) rcap }.cells) :: (H' ++ η)) w := h
  exact h2.tail
end Go.Proofs.YtjdaglmkljbfkaaGreatDoor
namespace Go.Proofs.YtjdaglmkljbfkaaGreatDoor
open Go Go.Gx Go.RowKit
set_option maxRecDepth 100000
theorem mark1 {m : List Value} (h : Ints byteK m) : ∃ c : Int, m = [.int .u8 c] := by
 obtain ⟨z, cs, rfl, _, h2⟩ := (show Ints (.u8 :: []) m from h).inv
 obtain rfl := h2.inv_nil
 exact ⟨z, rfl⟩
theorem at1 {l : List Value} {o : Nat} {v : Value} (h : (l.drop o).take 1 = [v]) : l[o]? = some v := by
 have := congrArg (fun x => x[0]?) h
 simpa using this
theorem fill_Byte (w0 : Base) (η : Heap) (va : Value) (ss : List Strip) (hs : ∀ s ∈ ss, s.ok 5 1 byteK) (ha : SlA (St w0 η) va 3 ss.length (arrOf ss)) :
  CallsT Tryz.prog 37 [va] (St w0 (heapOf ss ++ η)) fun _ A' => A' = St w0 (heapOf (ss.map (fillS 1)) ++ η) := by
 have hml : ∀ s ∈ ss, s.mark.length = 1 := fun s h => (hs s h).mints.length
 obtain ⟨hal, ada, ca, rfl, ⟨hca, hca2⟩, hra⟩ := ha
 refine CallsT.body Tryz.func37 rfl rfl ?_
 simp only [Tryz.ntmps37, slotsOf, Nat.reduceAdd]
 refine Qe (Qg ?_)
 refine Qa rfl rfl (Qd rfl rfl rfl) ?_
 refine Qf (Qb (Qr ?_))
 refine TC_loop (γ := {i : Nat // i ≤ ss.length}) (fun t => [(0, true, .slice ada ss.length ca), (2, true, .int .i64 (t.1 : Int))]) (fun t => St w0 (heapOf ((ss.take t.1).map (fillS 1)) ++ (heapOf (ss.drop t.1) ++ η))) (fun t => ss.length - t.1) ⟨0, by omega⟩ ⟨rfl, rfl, trivial⟩ (fun _ h => by simpa [heapOf] using h) ?_
 rintro ⟨i, hi⟩
 dsimp only
 refine Qe (Qe (Qg ?_))
 refine Qa rfl rfl (Qc rfl rfl rfl) ?_
 refine Qa rfl rfl (Qc rfl rfl rfl) ?_
 refine Qa rfl rfl (Za rfl rfl Tryz.underlying38 rfl) ?_
 refine Qa rfl rfl (QT_lss rfl rfl rfl rfl) ?_
 refine Qf (Qb ?_)
 refine Qm rfl (fun h7 => ?_) (fun h7 => ?_)
 ·
  refine Qt (Qb (Qe (Qr (Qe ?_))))
  have hin : i < ss.length := by omega
  obtain ⟨ba, oa, rfl, hrA⟩ := hra.resolve_left (by omega)
  obtain ⟨s, hsi⟩ : ∃ s, ss[i]? = some s := ⟨_, List.getElem?_eq_getElem hin⟩
  obtain ⟨hat1, hat2, hat3, hat4⟩ := arrOf_at hml hsi
  have hdrop : ss.drop i = s :: ss.drop (i + 1) := by
   rw [List.drop_eq_getElem_cons hin]
   congr 1
   exact (List.getElem?_eq_some_iff.1 hsi).2
  have htake : (ss.take (i + 1)).map (fillS 1) = (ss.take i).map (fillS 1) ++ [fillS 1 s] := by
   rw [List.take_add_one, hsi]; simp
  have hok := hs s (List.mem_of_getElem? hsi)
  have hmls := hml s (List.mem_of_getElem? hsi)
  rw [hdrop, heapOf_cons]
  obtain ⟨sv, sn, sxs, slong, smk, sH⟩ := s
  obtain ⟨⟨hfl, hfr⟩, hmk, hfew⟩ := hok
  dsimp only at hfl hfr hmk hfew hmls hat1 hat2 hat3 hat4
  have hsv : ∃ sad scap, sv = .slice sad sn scap := by
   rcases hfr with ⟨rfl, rfl, _⟩ | ⟨b, cap, rest, rfl, _⟩
   · exact ⟨_, _, rfl⟩
   · exact ⟨_, _, rfl⟩
  obtain ⟨sad, scap, rfl⟩ := hsv
  obtain ⟨mc, hmc⟩ := mark1 hmk
  refine Qg ?_
  refine Qa rfl rfl (Qd rfl rfl rfl) ?_
  refine Qf (Qb (Qr ?_))
  refine TC_loop (γ := {k : Nat // k ≤ sn}) (fun t => [(0, true, .slice (some ⟨ba, oa, none⟩) ss.length ca), (2, true, .int .i64 (i : Int)), (3, true, .int .i64 (t.1 : Int))]) (fun t => St w0 (fillH 1 t.1 smk sH ++ (heapOf ((ss.take i).map (fillS 1)) ++ (heapOf (ss.drop (i + 1)) ++ η)))) (fun t => sn - t.1) ⟨0, by omega⟩ ⟨rfl, rfl, rfl, trivial⟩ (fun _ h => h.cnt (fun p => by simp only [fillH_zero, List.countP_append]; omega)) ?_
  rintro ⟨k, hk⟩
  dsimp only
  refine Qe (Qe (Qg ?_))
  refine Qa rfl rfl (Qc rfl rfl rfl) ?_
  refine Qa rfl rfl (Qc rfl rfl rfl) ?_
  refine Qa rfl rfl (Qc rfl rfl rfl) ?_
  refine Qa rfl rfl (Qq (i) rfl rfl Tryz.underlying38 KF.sz_94 rfl rfl (rfl) (fun _ => hin)) ?_
  refine Qa rfl rfl (Qh rfl rfl KF.fld_94_0 rfl) ?_
  refine Qa rfl rfl (Qw (i * 3) rfl rfl Tryz.underlying28 rfl (hrA.mono fun _ h => h.cnt fun p => by simp only [List.countP_append]; omega) rfl (fun _ => hat1)) ?_
  refine Qa rfl rfl (Za rfl rfl Tryz.underlying28 rfl) ?_
  refine Qa rfl rfl (QT_lss rfl rfl rfl rfl) ?_
  refine Qf (Qb ?_)
  refine Qm rfl (fun h17 => ?_) (fun h17 => ?_)
  ·
   refine Qt (Qb (Qe (Qr ?_)))
   have hkn : k < sn := by omega
   have hszm : Sz Tryz.prog 5 smk.length := by rw [hmls]; exact KF.sz_5
   have hkz : (k + 1) * 1 ≤ sn * 1 := Nat.mul_le_mul_right _ (by omega)
   obtain ⟨b, cap, rest, hv, hcap, hlen, rfl⟩ : ∃ b cap rest, Value.slice sad sn scap = .slice (some ⟨b, 0, none⟩) sn cap ∧ (sn ≤ cap ∧ cap ≤ 9223372036854775807) ∧ cap * 1 ≤ (sxs ++ rest).length ∧ sH = [(b, 5, sxs ++ rest)] := by
    rcases hfr with ⟨_, h0, _⟩ | h
    · omega
    · exact h
   simp only [Value.slice.injEq, true_and] at hv
   obtain ⟨rfl, rfl⟩ := hv
   have hcz : sn * 1 ≤ scap * 1 := Nat.mul_le_mul_right _ (by omega)
   refine TC_draw [(0, 0), (1, 0), (2, 0), (3, 0), (4, 0), (5, 0), (6, 0), (7, 0), (8, 0), (9, 0), (10, 0), (11, 0), (12, 1)] KF.mixed (by kernel_rfl) (St.calm _ _) ?_
   refine Qk rfl rfl rfl (fun _ => Qc rfl rfl rfl) ?_
   refine Qk rfl rfl rfl (fun _ => Qc rfl rfl rfl) ?_
   refine Qk rfl rfl rfl (fun _ => Qq (i) rfl rfl Tryz.underlying38 KF.sz_94 rfl rfl (rfl) (fun _ => hin)) ?_
   refine Qk rfl rfl rfl (fun _ => Qh rfl rfl KF.fld_94_0 rfl) ?_
   refine Qz rfl rfl rfl (Qw (i * 3) rfl rfl Tryz.underlying28 rfl (hrA.mono fun _ h => h.cnt fun p => by simp only [List.countP_append]; omega) rfl (fun _ => hat1)) ?_
   refine Qk rfl rfl rfl (fun _ => Qc rfl rfl rfl) ?_
   refine Qk rfl rfl rfl (fun _ => Qc rfl rfl rfl) ?_
   refine Qk rfl rfl rfl (fun _ => Qc rfl rfl rfl) ?_
   refine Qk rfl rfl rfl (fun _ => Qq (i) rfl rfl Tryz.underlying38 KF.sz_94 rfl rfl (rfl) (fun _ => hin)) ?_
   refine Qk rfl rfl rfl (fun _ => Qh rfl rfl KF.fld_94_2 rfl) ?_
   refine Qz rfl rfl rfl (Qw (i * 3 + 2) rfl rfl Tryz.underlying5 rfl (hrA.mono fun _ h => h.cnt fun p => by simp only [List.countP_append]; omega) rfl (fun _ => at1 ((hat3).trans hmc))) ?_
   refine Qk rfl rfl rfl (fun _ => Qq (k) rfl rfl Tryz.underlying28 KF.sz_5 rfl rfl (rfl) (fun _ => hkn)) ?_
   refine TV_e0 rfl rfl rfl (rfl) (ET_store (vs := smk) 0 rfl rfl rfl (by rw [hmc]; rfl) hszm rfl (by rw [List.all_eq_true]; exact hmk.oneCell) (Nat.ble_eq_true_of_le (by simp only [List.length_append, List.length_drop, marks_len hmls]; omega))) ?_
   rintro _ _ ⟨rfl, rfl⟩
   refine ⟨_, .drop (by kernel_rfl) (.drop (by kernel_rfl) (.nil)), ?_⟩
   refine TV_end ?_
   refine Qo ?_
   refine Qb ?_
   skip
   refine Qg ?_
   refine Qa rfl rfl (Qc rfl rfl rfl) ?_
   refine Qa rfl rfl (Zb rfl rfl rfl rfl (fun _ => ⟨by omega, by omega⟩)) ?_
   refine Qa rfl rfl (Qd rfl rfl rfl) ?_
   refine Qf ?_
   refine TX_round ⟨k + 1, by omega⟩ (by dsimp only; omega) ⟨rfl, rfl, slotI rfl (by dsimp only; omega), trivial⟩ (fun w h => ?_)
   simp only [fillH, List.map_cons, List.map_nil, List.singleton_append, List.cons_append, List.nil_append, upd, Nat.zero_add] at h ⊢
   rw [fill_step hmls (by omega)] at h
   exact h
  ·
   refine Zd ?_
   refine Qi (Qi ?_)
   refine Qp ?_
   refine Qo ?_
   refine Qb (Qg ?_)
   refine Qa rfl rfl (Qc rfl rfl rfl) ?_
   refine Qa rfl rfl (Zb rfl rfl rfl rfl (fun _ => ⟨by omega, by omega⟩)) ?_
   refine Qa rfl rfl (Qd rfl rfl rfl) ?_
   refine Qf ?_
   refine TX_round ⟨i + 1, by omega⟩ (by dsimp only; omega) ⟨rfl, slotI rfl (by dsimp only; omega), trivial⟩ (fun w h => h.cnt fun p => ?_)
   obtain rfl : k = sn := by omega
   rw [htake, heapOf_append, heapOf_cons, heapOf_nil]
   simp only [fillS, List.countP_append, List.countP_nil]; omega
 ·
  refine Zd ?_
  refine Qi (Qi ?_)
  refine Qp ?_
  refine Qs (.inr rfl) (res0 rfl) ⟨_, rfl, fun w h => ?_⟩
  obtain rfl : i = ss.length := by omega
  simpa [heapOf] using h
theorem marked_Byte (w0 : Base) (η : Heap) (va : Value) (ss : List Strip) (hs : ∀ s ∈ ss, s.grown (St w0 η) 1 byteK) (ha : SlA (St w0 η) va 3 ss.length (arrOf ss)) :
    CallsT Tryz.prog 63 [va] (St w0 η) fun v A' => v = .bool true ∧ A' = St w0 η := by
  have hml : ∀ s ∈ ss, s.mark.length = 1 := fun s h => (hs s h).mints.length
  obtain ⟨hal, ada, ca, rfl, ⟨hca, hca2⟩, hra⟩ := ha
  refine CallsT.body Tryz.func63 rfl rfl ?_
  simp only [Tryz.ntmps63, slotsOf, Nat.reduceAdd]
  refine Qe (Qg ?_)
  refine Qa rfl rfl (Qd rfl rfl rfl) ?_
  refine Qf (Qb (Qe (Qe (Qg ?_))))
  refine Qa rfl rfl (Qd rfl rfl rfl) ?_
  refine Qf (Qb (Qr ?_))
  refine TC_loop (γ := {i : Nat // i ≤ ss.length}) (fun t => [(0, true, .slice ada ss.length ca), (3, true, .int .i64 (t.1 : Int))]) (fun t => St w0 η) (fun t => ss.length - t.1) ⟨0, by omega⟩ ⟨rfl, rfl, trivial⟩ (fun _ h => h) ?_
  rintro ⟨i, hi⟩
  dsimp only
  refine Qe (Qe (Qg ?_))
  refine Qa rfl rfl (Qc rfl rfl rfl) ?_
  refine Qa rfl rfl (Qc rfl rfl rfl) ?_
  refine Qa rfl rfl (Za rfl rfl Tryz.underlying38 rfl) ?_
  refine Qa rfl rfl (QT_lss rfl rfl rfl rfl) ?_
  refine Qf (Qb ?_)
  refine Qm rfl (fun h8 => ?_) (fun h8 => ?_)
  ·
    refine Qt (Qb (Qe (Qr (Qe ?_))))
    have hin : i < ss.length := by omega
    obtain ⟨ba, oa, rfl, hrA⟩ := hra.resolve_left (by omega)
    obtain ⟨s, hsi⟩ : ∃ s, ss[i]? = some s := ⟨_, List.getElem?_eq_getElem hin⟩
    obtain ⟨hat1, hat2, hat3, hat4⟩ := arrOf_at hml hsi
    have hok := hs s (List.mem_of_getElem? hsi)
    have hmls := hml s (List.mem_of_getElem? hsi)
    obtain ⟨sv, sn, sxs, slong, smk, sH⟩ := s
    obtain ⟨hl, hlong, hmk, hfew⟩ := hok
    dsimp only at hl hlong hmk hfew hmls hat1 hat2 hat3 hat4
    obtain ⟨hll, lad, lcap, lb, loff, rfl, hlc, hlad, hlr⟩ := hl.some
    obtain ⟨hgl, gad, gcap, gb, goff, rfl, hgc, hgad, hgr⟩ := hlong.some
    obtain rfl := hgad (by omega)
    obtain ⟨mc, hmc⟩ := mark1 hmk
    refine Qg ?_
    refine Qa rfl rfl (Qd rfl rfl rfl) ?_
    refine Qf (Qb (Qr ?_))
    refine TC_loop (γ := {k : Nat // k ≤ sn + 24}) (fun t => [(0, true, .slice (some ⟨ba, oa, none⟩) ss.length ca), (3, true, .int .i64 (i : Int)), (4, true, .int .i64 (t.1 : Int))]) (fun t => St w0 η) (fun t => sn + 24 - t.1) ⟨0, by omega⟩ ⟨rfl, rfl, rfl, trivial⟩ (fun _ h => h) ?_
    rintro ⟨k, hk⟩
    dsimp only
    refine Qe (Qe (Qg ?_))
    refine Qa rfl rfl (Qc rfl rfl rfl) ?_
    refine Qa rfl rfl (Qc rfl rfl rfl) ?_
    refine Qa rfl rfl (Qc rfl rfl rfl) ?_
    refine Qa rfl rfl (Qq (i) rfl rfl Tryz.underlying38 KF.sz_94 rfl rfl (rfl) (fun _ => hin)) ?_
    refine Qa rfl rfl (Qh rfl rfl KF.fld_94_1 rfl) ?_
    refine Qa rfl rfl (Qw (i * 3 + 1) rfl rfl Tryz.underlying28 rfl hrA rfl (fun _ => hat2)) ?_
    refine Qa rfl rfl (Za rfl rfl Tryz.underlying28 rfl) ?_
    refine Qa rfl rfl (QT_lss rfl rfl rfl rfl) ?_
    refine Qf (Qb ?_)
    refine Qm rfl (fun h18 => ?_) (fun h18 => ?_)
    ·
      refine Qt (Qb (Qe (Qr (Qe ?_))))
      have hkn : k < sn + 24 := by omega
      have hz1 : k * 1 + 1 ≤ (marks (sn + 24) smk).length := by
        rw [marks_len hmls]
        have : (k + 1) * 1 ≤ (sn + 24) * 1 := Nat.mul_le_mul_right _ (by omega)
        rw [Nat.add_mul] at this; omega
      have hz2 : (true && !decide ((k : Int) < (sn : Int))) = true ∨ k * 1 + 1 ≤ (marks sn smk).length := by
        by_cases h : k < sn
        · refine .inr ?_
          rw [marks_len hmls]
          have : (k + 1) * 1 ≤ sn * 1 := Nat.mul_le_mul_right _ (by omega)
          rw [Nat.add_mul] at this; omega
        · refine .inl ?_
          simpa using h
      refine TC_draw [(0, 0), (1, 0), (2, 0), (3, 0), (4, 0), (5, 0), (6, 0), (7, 0), (8, 0), (9, 0), (10, 0), (11, 0), (12, 0), (13, 0), (14, 0), (15, 0), (16, 0), (17, 0), (18, 0), (19, 0), (20, 0), (21, 0), (22, 0), (23, 0), (24, 0), (25, 0), (26, 0), (27, 0), (28, 0), (29, 0), (30, 0), (31, 0), (32, 0), (33, 0), (34, 0), (35, 0), (36, 0), (37, 0), (38, 0), (39, 0)] KF.mixed (by kernel_rfl) (St.calm _ _) ?_
      refine Qk rfl rfl rfl (fun _ => Qc rfl rfl rfl) ?_
      refine Qk rfl rfl rfl (fun _ => Qc rfl rfl rfl) ?_
      refine Qk rfl rfl rfl (fun _ => Qq (i) rfl rfl Tryz.underlying38 KF.sz_94 rfl rfl (rfl) (fun _ => hin)) ?_
      refine Qk rfl rfl rfl (fun _ => Qh rfl rfl KF.fld_94_1 rfl) ?_
      refine Qz rfl rfl rfl (Qw (i * 3 + 1) rfl rfl Tryz.underlying28 rfl hrA rfl (fun _ => hat2)) ?_
      refine Qk rfl rfl rfl (fun _ => Qc rfl rfl rfl) ?_
      refine Qk rfl rfl rfl (fun _ => Qq (k) rfl rfl Tryz.underlying28 KF.sz_5 rfl rfl (rfl) (fun _ => hkn)) ?_
      refine Qz rfl rfl rfl (Qw (k * 1) rfl rfl Tryz.underlying5 rfl hgr rfl (fun _ => at1 ((elem_marks hmls hkn).trans hmc))) ?_
      refine Qk rfl rfl rfl (fun _ => Qc rfl rfl rfl) ?_
      refine Qk rfl rfl rfl (fun _ => Qc rfl rfl rfl) ?_
      refine Qk rfl rfl rfl (fun _ => Qq (i) rfl rfl Tryz.underlying38 KF.sz_94 rfl rfl (rfl) (fun _ => hin)) ?_
      refine Qk rfl rfl rfl (fun _ => Qh rfl rfl KF.fld_94_2 rfl) ?_
      refine Qz rfl rfl rfl (Qw (i * 3 + 2) rfl rfl Tryz.underlying5 rfl hrA rfl (fun _ => at1 ((hat3).trans hmc))) ?_
      refine Qk rfl rfl rfl (fun _ => QT_neq rfl rfl rfl rfl) ?_
      refine Qk rfl rfl rfl (fun _ => Qc rfl rfl rfl) ?_
      refine Qk rfl rfl rfl (fun _ => Qc rfl rfl rfl) ?_
      refine Qk rfl rfl rfl (fun _ => Qc rfl rfl rfl) ?_
      refine Qk rfl rfl rfl (fun _ => Qc rfl rfl rfl) ?_
      refine Qk rfl rfl rfl (fun _ => Qq (i) rfl rfl Tryz.underlying38 KF.sz_94 rfl rfl (rfl) (fun _ => hin)) ?_
      refine Qk rfl rfl rfl (fun _ => Qh rfl rfl KF.fld_94_0 rfl) ?_
      refine Qz rfl rfl rfl (Qw (i * 3) rfl rfl Tryz.underlying28 rfl hrA rfl (fun _ => hat1)) ?_
      refine Qk rfl rfl rfl (fun _ => Za rfl rfl Tryz.underlying28 rfl) ?_
      refine Qk rfl rfl rfl (fun _ => QT_lss rfl rfl rfl rfl) ?_
      refine Qk rfl rfl rfl (fun _ => Qc rfl rfl rfl) ?_
      refine Qk rfl rfl rfl (fun _ => Qc rfl rfl rfl) ?_
      refine Qk rfl rfl rfl (fun _ => Qc rfl rfl rfl) ?_
      refine Qk rfl rfl rfl (fun _ => Qq (i) rfl rfl Tryz.underlying38 KF.sz_94 rfl rfl (rfl) (fun _ => hin)) ?_
      refine Qk rfl rfl rfl (fun _ => Qh rfl rfl KF.fld_94_0 rfl) ?_
      refine Qz rfl rfl rfl (Qw (i * 3) rfl rfl Tryz.underlying28 rfl hrA rfl (fun _ => hat1)) ?_
      refine Qk rfl rfl rfl (fun _ => Qc rfl rfl rfl) ?_
      refine Qk rfl rfl rfl (fun _ => QT_indexG k rfl rfl Tryz.underlying28 KF.sz_5 rfl rfl rfl (fun h => by simp at h; omega) (fun h => hlad (by simp at h; omega))) ?_
      refine Qz rfl rfl rfl (Qw (k * 1) rfl rfl Tryz.underlying5 rfl hlr rfl (fun h => at1 ((elem_marks hmls (by simp at h; omega)).trans hmc))) ?_
      refine Qk rfl rfl rfl (fun _ => Qc rfl rfl rfl) ?_
      refine Qk rfl rfl rfl (fun _ => Qc rfl rfl rfl) ?_
      refine Qk rfl rfl rfl (fun _ => Qq (i) rfl rfl Tryz.underlying38 KF.sz_94 rfl rfl (rfl) (fun _ => hin)) ?_
      refine Qk rfl rfl rfl (fun _ => Qh rfl rfl KF.fld_94_2 rfl) ?_
      refine Qz rfl rfl rfl (Qw (i * 3 + 2) rfl rfl Tryz.underlying5 rfl hrA rfl (fun _ => at1 ((hat3).trans hmc))) ?_
      refine Qk rfl rfl rfl (fun _ => QT_neq rfl rfl rfl rfl) ?_
      refine Qk rfl rfl rfl (fun _ => QT_and rfl rfl rfl rfl) ?_
      refine Qk rfl rfl rfl (fun _ => QT_or rfl rfl rfl rfl) ?_
      refine TV_end (Qb ?_)
      refine TC_cond rfl (fun h => absurd (h.symm.trans ((show (_ : Bool) = false by simp))) (by decide)) (fun _ => ?_)
      refine Qt ?_
      refine Qo ?_
      refine Qb (Qg ?_)
      refine Qa rfl rfl (Qc rfl rfl rfl) ?_
      refine Qa rfl rfl (Zb rfl rfl rfl rfl (fun _ => ⟨by omega, by omega⟩)) ?_
      refine Qa rfl rfl (Qd rfl rfl rfl) ?_
      refine Qf ?_
      exact TX_round ⟨k + 1, by omega⟩ (by dsimp only; omega) ⟨rfl, rfl, slotI rfl (by dsimp only; omega), trivial⟩ (fun w h => h)
    ·
      refine Zd ?_
      refine Qi (Qi ?_)
      refine Qp ?_
      refine Qo ?_
      refine Qb (Qg ?_)
      refine Qa rfl rfl (Qc rfl rfl rfl) ?_
      refine Qa rfl rfl (Zb rfl rfl rfl rfl (fun _ => ⟨by omega, by omega⟩)) ?_
      refine Qa rfl rfl (Qd rfl rfl rfl) ?_
      refine Qf ?_
      exact TX_round ⟨i + 1, by omega⟩ (by dsimp only; omega) ⟨rfl, slotI rfl (by dsimp only; omega), trivial⟩ (fun w h => h)
  ·
    refine Zd ?_
    refine Qi (Qi ?_)
    refine Qp ?_
    refine Qb (Qe (Qg ?_))
    refine Qa rfl rfl (Qd rfl rfl rfl) ?_
    refine Qf (Qb ?_)
    refine Qu ?_
    exact Qs (.inl rfl) (res1 rfl rfl) ⟨_, ⟨rfl, rfl⟩, (fun _ h => by first | exact h | exact h.tail | exact h.tail.tail | exact h.tail.tail.tail | exact h.tail.tail.tail.tail | exact h.tail.tail.tail.tail.tail | exact h.tail.tail.tail.tail.tail.tail | exact h.tail.tail.tail.tail.tail.tail.tail | exact h.tail.tail.tail.tail.tail.tail.tail.tail | exact h.tail.tail.tail.tail.tail.tail.tail.tail.tail | exact h.tail.tail.tail.tail.tail.tail.tail.tail.tail.tail | exact h.tail.tail.tail.tail.tail.tail.tail.tail.tail.tail.tail | exact h.tail.tail.tail.tail.tail.tail.tail.tail.tail.tail.tail.tail | exact h.tail.tail.tail.tail.tail.tail.tail.tail.tail.tail.tail.tail.tail)⟩
theorem grow_Byte (w0 : Base) (η H : Heap) (va : Value) (ss : List Strip) (hs : ∀ s ∈ ss, s.ok 5 1 byteK ∧ s.xs = marks s.n s.mark) (ha : Frag 94 3 va ss.length (arrOf ss) H) :
    CallsT Tryz.prog 50 [va] (St w0 (H ++ (heapOf ss ++ η))) fun _ A' => ∃ ss' H', ss'.length = ss.length ∧ (∀ s ∈ ss', s.grown (St w0 (heapOf ss')) 1 byteK) ∧ Frag 94 3 va ss'.length (arrOf ss') H' ∧ A' = St w0 (H' ++ (heapOf ss' ++ η)) := by
  have hml : ∀ s ∈ ss, s.mark.length = 1 := fun s h => (hs s h).1.mints.length
  have hF := ha
  obtain ⟨ada, ca, rfl, ⟨hca, hca2⟩, hblk⟩ := ha.slice
  have hal := ha.1
  refine CallsT.body Tryz.func50 rfl rfl ?_
  simp only [Tryz.ntmps50, slotsOf, Nat.reduceAdd]
  refine Qe (Qg ?_)
  refine Qa rfl rfl (Qd rfl rfl rfl) ?_
  refine Qf (Qb (Qr ?_))
  refine TC_loop (γ := {d : List Strip // d.length ≤ ss.length ∧ ∀ s ∈ d, s.grown (St w0 s.H) 1 byteK}) (fun t => [(0, true, .slice ada ss.length ca), (2, true, .int .i64 (t.1.length : Int))]) (fun t => St w0 (reH (arrOf ss).length (arrOf (t.1 ++ ss.drop t.1.length)) H ++ (heapOf t.1 ++ (heapOf (ss.drop t.1.length) ++ η)))) (fun t => ss.length - t.1.length) ⟨[], by simp, by simp⟩ ⟨rfl, rfl, trivial⟩ (fun _ h => by simpa [heapOf_nil, hF.re_self] using h) ?_
  rintro ⟨d, hi, hd⟩
  dsimp only
  refine Qe (Qe (Qg ?_))
  refine Qa rfl rfl (Qc rfl rfl rfl) ?_
  refine Qa rfl rfl (Qc rfl rfl rfl) ?_
  refine Qa rfl rfl (Za rfl rfl Tryz.underlying38 rfl) ?_
  refine Qa rfl rfl (QT_lss rfl rfl rfl rfl) ?_
  refine Qf (Qb ?_)
  refine Qm rfl (fun h7 => ?_) (fun h7 => ?_)
  ·
    refine Qt (Qb (Qe (Qr (Qe ?_))))
    have hin : d.length < ss.length := by omega
    have hmd : ∀ s ∈ d, s.mark.length = 1 := fun s h => (hd s h).mints.length
    obtain ⟨ba, rest, rfl, rfl⟩ := hblk (by omega)
    obtain ⟨s, hsi⟩ : ∃ s, ss[d.length]? = some s := ⟨_, List.getElem?_eq_getElem hin⟩
    have hdrop : ss.drop d.length = s :: ss.drop (d.length + 1) := by
      rw [List.drop_eq_getElem_cons hin]
      congr 1
      exact (List.getElem?_eq_some_iff.1 hsi).2
    obtain ⟨hok, hxs⟩ := hs s (List.mem_of_getElem? hsi)
    have hmls := hml s (List.mem_of_getElem? hsi)
    have hmt : ∀ s ∈ ss.drop (d.length + 1), s.mark.length = 1 := fun s h => hml s (List.mem_of_mem_drop h)
    have hI := LongInv.start (w0 := w0) hok hxs
    have hmi := hok.mints
    have hfew := hok.few
    obtain ⟨sad, scap, hsv, hscap, hsb⟩ := hok.frag.slice
    obtain ⟨sv, sn, sxs, slong, smk, sH⟩ := s
    dsimp only at hI hmi hfew hmls hsv hscap hsb
    subst hsv
    obtain ⟨mc, hmc⟩ := mark1 hmi
    have hall : ∀ lv : Value, ∀ s' ∈ (d ++ (⟨.slice sad sn scap, sn, sxs, lv, smk, sH⟩ : Strip) :: ss.drop (d.length + 1)), s'.mark.length = 1 := fun lv s' h => by
      rcases List.mem_append.1 h with h | h
      · exact hmd s' h
      · rcases List.mem_cons.1 h with rfl | h
        · exact hmls
        · exact hmt s' h
    have hlens : ∀ lv : Value, (arrOf (d ++ (⟨.slice sad sn scap, sn, sxs, lv, smk, sH⟩ : Strip) :: ss.drop (d.length + 1))).length = ss.length * 3 := fun lv => by
      rw [arrOf_len (hall lv), List.length_append, List.length_cons, List.length_drop]
      congr 1; omega
    have hat : ∀ lv : Value, (arrOf (d ++ (⟨.slice sad sn scap, sn, sxs, lv, smk, sH⟩ : Strip) :: ss.drop (d.length + 1)))[d.length * (1 + 2)]? = some (.slice sad sn scap) ∧ (arrOf (d ++ (⟨.slice sad sn scap, sn, sxs, lv, smk, sH⟩ : Strip) :: ss.drop (d.length + 1)))[d.length * (1 + 2) + 1]? = some lv ∧ ((arrOf (d ++ (⟨.slice sad sn scap, sn, sxs, lv, smk, sH⟩ : Strip) :: ss.drop (d.length + 1))).drop (d.length * (1 + 2) + 2)).take 1 = smk ∧ d.length * (1 + 2) + 2 + 1 ≤ (arrOf (d ++ (⟨.slice sad sn scap, sn, sxs, lv, smk, sH⟩ : Strip) :: ss.drop (d.length + 1))).length := fun lv => arrOf_at (hall lv) (i := d.length) (s := ⟨_, sn, sxs, lv, smk, sH⟩) (by simp)
    have hset : ∀ lv r : Value, setAt (arrOf (d ++ (⟨.slice sad sn scap, sn, sxs, lv, smk, sH⟩ : Strip) :: ss.drop (d.length + 1)) ++ rest) (d.length * (1 + 2) + 1) [r] = arrOf (d ++ (⟨.slice sad sn scap, sn, sxs, r, smk, sH⟩ : Strip) :: ss.drop (d.length + 1)) ++ rest := fun lv r => arrOf_set hmd rest
    have hin2 : (d.length + 1) * 3 ≤ ss.length * 3 := Nat.mul_le_mul_right _ (by omega)
    rw [hdrop]
    refine TC_A (St w0 ((ba, 94, arrOf (d ++ (⟨.slice sad sn scap, sn, sxs, slong, smk, sH⟩ : Strip) :: ss.drop (d.length + 1)) ++ rest) :: (sH ++ ([] ++ (heapOf d ++ (heapOf (ss.drop (d.length + 1)) ++ η)))))) (fun w h => by
      simp only [reH, List.map_cons, List.map_nil, List.drop_left, heapOf_cons] at h
      exact h.cnt fun p => by simp only [List.countP_append, List.countP_cons, List.countP_nil]; omega) ?_
    have hrA : ∀ (X : Heap) (lv : Value), Rd (St w0 ((ba, 94, arrOf (d ++ (⟨.slice sad sn scap, sn, sxs, lv, smk, sH⟩ : Strip) :: ss.drop (d.length + 1)) ++ rest) :: X)) ba 0 (arrOf (d ++ (⟨.slice sad sn scap, sn, sxs, lv, smk, sH⟩ : Strip) :: ss.drop (d.length + 1))) := fun X lv => Rd.ownA (List.mem_cons_self ..) 0 (by simp)
    refine Qg ?_
    refine Qa rfl rfl (Qc rfl rfl rfl) ?_
    refine Qa rfl rfl (Qc rfl rfl rfl) ?_
    refine Qa rfl rfl (Qc rfl rfl rfl) ?_
    refine Qa rfl rfl (Qc rfl rfl rfl) ?_
    refine Qa rfl rfl (Qq (d.length) rfl rfl Tryz.underlying38 KF.sz_94 rfl rfl (rfl) (fun _ => hin)) ?_
    refine Qa rfl rfl (Qh rfl rfl KF.fld_94_0 rfl) ?_
    refine Qa rfl rfl (Qw (d.length * 3) rfl rfl Tryz.underlying28 rfl (hrA _ slong) rfl (fun _ => (hat slong).1)) ?_
    refine Qa rfl rfl (Qq (d.length) rfl rfl Tryz.underlying38 KF.sz_94 rfl rfl (rfl) (fun _ => hin)) ?_
    refine Qa rfl rfl (Qh rfl rfl KF.fld_94_1 rfl) ?_
    refine TL_e0 rfl rfl (rfl) (ET_store (vs := [.slice sad sn scap]) 0 rfl rfl rfl rfl KF.sz_28 rfl rfl (Nat.ble_eq_true_of_le (by have := hlens slong; simp only [List.length_append, List.length_cons, List.length_nil]; omega))) ?_
    rintro _ _ ⟨rfl, rfl⟩
    refine Qf (Qb (Qe ?_))
    refine TC_A (St w0 ((ba, 94, arrOf (d ++ (⟨.slice sad sn scap, sn, sxs, (.slice sad sn scap), smk, sH⟩ : Strip) :: ss.drop (d.length + 1)) ++ rest) :: (sH ++ ([] ++ (heapOf d ++ (heapOf (ss.drop (d.length + 1)) ++ η)))))) (fun w h => by
      simp only [upd, Nat.zero_add] at h
      rw [hset slong] at h
      exact h) ?_
    refine Qg ?_
    refine Qa rfl rfl (Qd rfl rfl rfl) ?_
    refine Qf (Qb (Qr ?_))
    refine TC_loop (γ := {t : Nat × Value × Heap × Heap // t.1 ≤ 24 ∧ LongInv w0 5 1 (.slice sad sn scap) sn smk t.2.1 (sn + t.1) t.2.2.1 t.2.2.2}) (fun t => [(0, true, .slice (some ⟨ba, 0, none⟩) ss.length ca), (2, true, .int .i64 (d.length : Int)), (3, true, .int .i64 (t.1.1 : Int))]) (fun t => St w0 ((ba, 94, arrOf (d ++ (⟨.slice sad sn scap, sn, sxs, t.1.2.1, smk, sH⟩ : Strip) :: ss.drop (d.length + 1)) ++ rest) :: (t.1.2.2.1 ++ (t.1.2.2.2 ++ (heapOf d ++ (heapOf (ss.drop (d.length + 1)) ++ η)))))) (fun t => 24 - t.1.1) ⟨(0, .slice sad sn scap, sH, []), by dsimp only; omega, hI⟩ ⟨rfl, rfl, rfl, trivial⟩ (fun _ h => h) ?_
    rintro ⟨⟨k, lv, HL, KK⟩, hk, hL⟩
    dsimp only at hk hL ⊢
    refine Qe (Qe (Qg ?_))
    refine Qa rfl rfl (Qc rfl rfl rfl) ?_
    refine Qa rfl rfl (QT_lss rfl rfl rfl rfl) ?_
    refine Qf (Qb ?_)
    refine Qm rfl (fun h20 => ?_) (fun h20 => ?_)
    ·
      refine Qt (Qb (Qe (Qr ?_)))
      have hk24 : k < 24 := by omega
      refine TC_draw [(0, 0), (1, 0), (2, 0), (3, 0), (4, 0), (5, 0), (6, 0), (7, 0), (8, 0), (9, 0), (10, 0), (11, 0), (12, 1), (13, 1), (14, 0), (15, 0), (16, 1)] KF.mixed (by kernel_rfl) (St.calm _ _) ?_
      refine Qk rfl rfl rfl (fun _ => Qc rfl rfl rfl) ?_
      refine Qk rfl rfl rfl (fun _ => Qc rfl rfl rfl) ?_
      refine Qk rfl rfl rfl (fun _ => Qc rfl rfl rfl) ?_
      refine Qk rfl rfl rfl (fun _ => Qc rfl rfl rfl) ?_
      refine Qk rfl rfl rfl (fun _ => Qq (d.length) rfl rfl Tryz.underlying38 KF.sz_94 rfl rfl (rfl) (fun _ => hin)) ?_
      refine Qk rfl rfl rfl (fun _ => Qh rfl rfl KF.fld_94_1 rfl) ?_
      refine Qz rfl rfl rfl (Qw (d.length * 3 + 1) rfl rfl Tryz.underlying28 rfl ((hrA [] lv).mono fun _ h => h.cnt fun p => by simp only [List.countP_append, List.countP_cons, List.countP_nil]; omega) rfl (fun _ => (hat lv).2.1)) ?_
      refine Qk rfl rfl rfl (fun _ => Qc rfl rfl rfl) ?_
      refine Qk rfl rfl rfl (fun _ => Qc rfl rfl rfl) ?_
      refine Qk rfl rfl rfl (fun _ => Qq (d.length) rfl rfl Tryz.underlying38 KF.sz_94 rfl rfl (rfl) (fun _ => hin)) ?_
      refine Qk rfl rfl rfl (fun _ => Qh rfl rfl KF.fld_94_2 rfl) ?_
      refine Qz rfl rfl rfl (Qw (d.length * 3 + 2) rfl rfl Tryz.underlying5 rfl ((hrA [] lv).mono fun _ h => h.cnt fun p => by simp only [List.countP_append, List.countP_cons, List.countP_nil]; omega) rfl (fun _ => at1 (((hat lv).2.2.1).trans hmc))) ?_
      refine TV_e rfl rfl rfl rfl (rfl) (ET_buildN [_] rfl Tryz.underlying28 KF.sz_5 KF.zero_5 rfl rfl rfl (fun v hv => by cases List.mem_singleton.1 hv; rfl)) ?_
      rintro _ _ ⟨b35, rfl, rfl⟩
      refine ⟨_, .drop (by kernel_rfl) (.keep (by kernel_rfl) rfl (by first | exact Qw (d.length * 3 + 1) rfl rfl Tryz.underlying28 rfl ((hrA [] lv).mono fun _ h => h.cnt fun p => by simp only [List.countP_append, List.countP_cons, List.countP_nil]; omega) rfl (fun _ => (hat lv).2.1)) (.nil)), ?_⟩
      refine TV_e rfl rfl rfl rfl (rfl) (ET_long (L := [_, _]) rfl Tryz.underlying28 el_Byte rfl rfl hL hmls (fun _ h => h) (SlA.own (n := 1) (xs := smk) 0 rfl (by rw [hmc]; rfl) (Nat.le_refl _) (by omega)) hmi.oneCell (few_b hfew hk24 (by decide)) (few_l hfew hk24)) ?_
      rintro lv2 _ ⟨H', K', hL', rfl⟩
      refine ⟨_, .drop (by kernel_rfl) (.nil), ?_⟩
      obtain ⟨ad2, cap2, rfl, _⟩ := hL'.frag.slice
      refine Qk rfl rfl rfl (fun _ => Qq (d.length) rfl rfl Tryz.underlying38 KF.sz_94 rfl rfl (rfl) (fun _ => hin)) ?_
      refine Qk rfl rfl rfl (fun _ => Qh rfl rfl KF.fld_94_1 rfl) ?_
      refine TV_e0 rfl rfl rfl (rfl) (ET_store (vs := [.slice ad2 (sn + k + 1) cap2]) 1 rfl rfl rfl rfl KF.sz_28 rfl rfl (Nat.ble_eq_true_of_le (by have := hlens lv; simp only [List.length_append, List.length_cons, List.length_nil]; omega))) ?_
      rintro _ _ ⟨rfl, rfl⟩
      refine ⟨_, .nil, ?_⟩
      refine TV_end ?_
      refine Qo ?_
      refine Qb (Qg ?_)
      refine Qa rfl rfl (Qc rfl rfl rfl) ?_
      refine Qa rfl rfl (Zb rfl rfl rfl rfl (fun _ => ⟨by omega, by omega⟩)) ?_
      refine Qa rfl rfl (Qd rfl rfl rfl) ?_
      refine Qf ?_
      refine TX_round ⟨(k + 1, .slice ad2 (sn + k + 1) cap2, H', K'), by dsimp only; omega, hL'⟩ (by dsimp only; omega) ⟨rfl, rfl, slotI rfl (by dsimp only; omega), trivial⟩ (fun w h => ?_)
      simp only [upd, Nat.zero_add] at h
      rw [hset lv] at h
      exact h.tail
    ·
      refine Zd ?_
      refine Qi (Qi ?_)
      refine Qp ?_
      refine Qo ?_
      refine Qb (Qg ?_)
      refine Qa rfl rfl (Qc rfl rfl rfl) ?_
      refine Qa rfl rfl (Zb rfl rfl rfl rfl (fun _ => ⟨by omega, by omega⟩)) ?_
      refine Qa rfl rfl (Qd rfl rfl rfl) ?_
      refine Qf ?_
      obtain rfl : k = 24 := by omega
      have hg := LongInv.grown (s := ⟨.slice sad sn scap, sn, sxs, lv, smk, sH⟩) hL hmi rfl hfew
      refine TX_round ⟨d ++ [⟨.slice sad sn scap, sn, sxs, lv, smk, HL ++ KK⟩], by simp; omega, fun s h => ?_⟩ (by simp only [List.length_append, List.length_cons, List.length_nil]; omega) ⟨rfl, slotI rfl (by simp), trivial⟩ (fun w h => ?_)
      · rcases List.mem_append.1 h with h | h
        · exact hd s h
        · obtain rfl := List.mem_singleton.1 h
          exact hg
      · have e : arrOf ((d ++ [(⟨.slice sad sn scap, sn, sxs, lv, smk, HL ++ KK⟩ : Strip)]) ++ ss.drop (d.length + 1)) = arrOf (d ++ (⟨.slice sad sn scap, sn, sxs, lv, smk, sH⟩ : Strip) :: ss.drop (d.length + 1)) := by
          simp [arrOf, Strip.cells]
        simp only [List.length_append, List.length_cons, List.length_nil, Nat.zero_add, e, heapOf_append, heapOf_cons, heapOf_nil, reH, List.map_cons, List.map_nil, List.drop_left]
        exact h.cnt fun p => by simp only [List.countP_append, List.countP_cons, List.countP_nil]; omega
  ·
    refine Zd ?_
    refine Qi (Qi ?_)
    refine Qp ?_
    refine Qs (.inr rfl) (res0 rfl) ⟨_, ⟨d, reH (arrOf ss).length (arrOf d) H, by omega, fun s h => (hd s h).mono fun _ hw => hw.cnt (heapOf_mem h), ?_, rfl⟩, fun w h => ?_⟩
    · have hdl : d.length = ss.length := by omega
      rw [hdl]
      exact hF.re (by rw [arrOf_len (Z := 1) (fun s h => (hd s h).mints.length), arrOf_len hml, hdl])
    · have hdl : ss.drop d.length = [] := List.drop_eq_nil_of_le (by omega)
      rw [hdl, List.append_nil, heapOf_nil] at h
      simpa using h
end Go.Proofs.YtjdaglmkljbfkaaGreatDoor
namespace Go.Proofs.YtjdaglmkljbfkaaGreatDoor
open Go Go.Gx Go.RowKit
set_option maxRecDepth 100000
theorem el_stripByte : ElemOk Tryz.prog 94 3 56 (.agg (nilS :: nilS :: [.int .u8 0]).toArray) := .of KF.sz_94 (by kernel_rfl) (by unfold ZeroOk; kernel_rfl) (by kernel_rfl) (by decide)
theorem book_Bytes (w0 : Base) (η H : Heap) (kb : Nat) (k : Bk) (ss : List Strip) (v : Value) (n : Nat) (xs : List Value) (Hv : Heap) (h0 : 0 ≤ k.many ∧ k.many ≤ 250) (hF : Frag 94 3 k.bytes ss.length (arrOf ss) H) (hs : ∀ s ∈ ss, s.ok 5 1 byteK) (hsl : ss.length ≤ 1000) (hv : ∃ ad n cap, v = .slice ad n cap) :
    CallsT Tryz.prog 9 [.pointer (some ⟨kb, 0, none⟩), v] (St w0 ((kb, 52, k.cells) :: (H ++ η))) fun _ A' => ∃ r H', Frag 94 3 r (ss.length + 1) (arrOf (ss ++ [⟨v, n, xs, nilS, [.int .u8 (k.many + 1)], Hv⟩])) H' ∧ A' = St w0 ((kb, 52, { k with many := k.many + 1, bytes := r }.cells) :: (H' ++ η)) := by
  obtain ⟨vad, vn, vcap, rfl⟩ := hv
  obtain ⟨fad, fcap, hfv, hfc, _⟩ := hF.slice
  have hwr : IntKind.u8.wrap (k.many + 1) = k.many + 1 := IntWalk.u8_in _ ⟨by omega, by omega⟩
  refine CallsT.body Tryz.func9 rfl rfl ?_
  simp only [Tryz.ntmps9, slotsOf, Nat.reduceAdd]
  refine TC_draw [(0, 0), (1, 0), (2, 0), (3, 0), (4, 0), (5, 0), (6, 0), (7, 1), (8, 0), (9, 0), (10, 1), (11, 1), (12, 0), (13, 0), (14, 1)] KF.mixed (by kernel_rfl) (St.calm _ _) ?_
  refine Qk rfl rfl rfl (fun _ => Qc rfl rfl rfl) ?_
  refine Qk rfl rfl rfl (fun _ => Qc rfl rfl rfl) ?_
  refine Qk rfl rfl rfl (fun _ => Qv rfl rfl rfl) ?_
  refine Qk rfl rfl rfl (fun _ => Qh rfl rfl KF.fld_52_1 rfl) ?_
  refine Qz rfl rfl rfl (Qj 0 rfl rfl Tryz.underlying38 rfl rfl rfl (fun _ => rfl)) ?_
  refine Qk rfl rfl rfl (fun _ => Qc rfl rfl rfl) ?_
  refine Qk rfl rfl rfl (fun _ => Qc rfl rfl rfl) ?_
  refine TV_e rfl rfl rfl rfl (rfl) (ET_call rfl KF.cal_31 rfl (next_spec w0 _ kb k (by omega))) ?_
  rintro _ _ ⟨rfl, rfl⟩
  refine ⟨_, .keep (by kernel_rfl) rfl (by first | exact Qj 0 rfl rfl Tryz.underlying38 rfl rfl rfl (fun _ => rfl) | exact Qj 1 rfl rfl Tryz.underlying38 rfl rfl rfl (fun _ => rfl) | exact Qj 2 rfl rfl Tryz.underlying38 rfl rfl rfl (fun _ => rfl)) (.nil), ?_⟩
  refine Qk rfl rfl rfl (fun _ => QT_convN rfl rfl Tryz.underlying3 Tryz.underlying5 rfl hwr) ?_
  refine Qk rfl rfl rfl (fun _ => QT_build rfl rfl KF.zero_94 KF.pl_94 rfl rfl rfl) ?_
  refine TV_e rfl rfl rfl rfl (rfl) (ET_buildN [_] rfl Tryz.underlying38 KF.sz_94 KF.zero_94 rfl rfl rfl (fun v hv => by cases List.mem_singleton.1 hv; rfl)) ?_
  rintro _ _ ⟨b14, rfl, rfl⟩
  refine ⟨_, .keep (by kernel_rfl) rfl (by first | exact Qj 0 rfl rfl Tryz.underlying38 rfl rfl rfl (fun _ => rfl) | exact Qj 1 rfl rfl Tryz.underlying38 rfl rfl rfl (fun _ => rfl) | exact Qj 2 rfl rfl Tryz.underlying38 rfl rfl rfl (fun _ => rfl)) (.nil), ?_⟩
  refine TV_e rfl rfl rfl rfl (rfl) (ET_appendL (L := [_, _]) rfl Tryz.underlying38 el_stripByte rfl rfl hF (fun _ h => h) (SlA.own (n := 1) (xs := [.slice vad vn vcap, nilS, .int .u8 (k.many + 1)]) 0 rfl rfl (Nat.le_refl _) (by omega)) (fun u hu => by
   rcases List.mem_cons.1 hu with rfl | hu
   · rfl
   · rcases List.mem_cons.1 hu with rfl | hu
     · rfl
     · cases List.mem_singleton.1 hu; rfl) (by omega) (by omega)) ?_
  rintro r _ ⟨H', hF', rfl⟩
  refine ⟨_, .drop (by kernel_rfl) (.nil), ?_⟩
  obtain ⟨rad, rcap, rfl, _, _⟩ := hF'.slice
  refine Qk rfl rfl rfl (fun _ => Qv rfl rfl rfl) ?_
  refine Qk rfl rfl rfl (fun _ => Qh rfl rfl KF.fld_52_1 rfl) ?_
  refine TV_e0 rfl rfl rfl (rfl) (ET_store 1 rfl rfl rfl rfl KF.sz_38 rfl rfl rfl) ?_
  rintro _ _ ⟨rfl, rfl⟩
  refine ⟨_, .nil, ?_⟩
  refine TV_end ?_
  refine Qs (.inr rfl) (res0 rfl) ⟨_, ⟨.slice rad (ss.length + 1) rcap, H', by rw [arrOf_append]; simpa [arrOf, Strip.cells] using hF', rfl⟩, fun w h => ?_⟩
  have h2 : St w0 ((b14, 94, _) :: (kb, 52, { k with many := k.many + 1, bytes := .slice rad (ss.length + 1) rcap }.cells) :: (H' ++ η)) w := h
  exact h2.tail
end Go.Proofs.YtjdaglmkljbfkaaGreatDoor
namespace Go.Proofs.YtjdaglmkljbfkaaGreatDoor
open Go Go.Gx
set_option maxRecDepth 100000
def rkK (p : Nat) : IntKind := if p = 0 then .u8 else if p < 3 then .u32 else .u16
def rkM (p : Nat) : Nat := if p = 0 then 256 else if p < 3 then 4294967296 else 65536
theorem recK_at {p : Nat} (h : p < 7) : recK[p]? = some (rkK p) := (show ∀ p : Fin 7, recK[p.1]? = some (rkK p.1) by decide) ⟨p, h⟩
theorem recK_len : recK.length = 7 := by decide
def rvV (xs : List Nat) : List Value := List.zipWith (fun (k : IntKind) (x : Nat) => Value.int k (x : Int)) recK xs
theorem rvV_len {xs : List Nat} (h : xs.length = 7) : (rvV xs).length = 7 := by rw [rvV, List.length_zipWith, recK_len, h]; rfl
theorem rvV_at {xs : List Nat} {p x : Nat} (hp : p < 7) (h : xs[p]? = some x) : (rvV xs)[p]? = some (.int (rkK p) (x : Int)) := by
 rw [rvV, List.getElem?_zipWith, recK_at hp, h]
theorem rvV_set {xs : List Nat} {p v : Nat} (hp : p < 7) : (rvV xs).set p (.int (rkK p) (v : Int)) = rvV (xs.set p v) := by
  apply List.ext_getElem?
  intro k
  rw [List.getElem?_set]
  by_cases e : p = k
  · subst e
    rw [if_pos rfl]
    by_cases hl : p < xs.length
    · rw [if_pos (by rw [rvV, List.length_zipWith, recK_len]; omega), rvV_at (x := v) hp (by rw [List.getElem?_set, if_pos rfl, if_pos hl])]
    · rw [if_neg (by rw [rvV, List.length_zipWith]; omega), rvV, List.getElem?_zipWith, List.getElem?_eq_none (l := xs.set p v) (by rw [List.length_set]; omega), recK_at hp]
  · rw [if_neg e, rvV, rvV, List.getElem?_zipWith, List.getElem?_zipWith, List.getElem?_set, if_neg e]
/-- how wide a record's numbers are -/
def flN (L : Lay) : Nat := (flb L).toNat
def wdR (L : Lay) (p : Nat) : Nat := if p = 0 then flN L else if p < 3 then L.co.toNat else if p - 3 < L.cs.toNat then L.cm.toNat else 0
def wR (L : Lay) : Ws := (List.range 7).map fun p => (wdR L p, rkM p)
theorem wR_len (L : Lay) : (wR L).length = 7 := by simp [wR]
theorem wR_at {L : Lay} {p : Nat} (h : p < 7) : (wR L)[p]? = some (wdR L p, rkM p) := by rw [wR, List.getElem?_map, List.getElem?_range h]; rfl
/-- a record's numbers -/
structure RcF (r : List Nat) : Prop where
 len : r.length = 7
 lt : ∀ {p x}, r[p]? = some x → x < rkM p
theorem rkM_le (p : Nat) : rkM p ≤ 4294967296 := by unfold rkM; split; decide; split <;> decide
theorem get7 {r : List Nat} (h : r.length = 7) {p : Nat} (hp : p < 7) : ∃ x, r[p]? = some x := ⟨_, List.getElem?_eq_getElem (by omega)⟩
theorem flN_bd {L : Lay} (h : okB L = true) : flN L ≤ 8 ∧ (flN L : Int) = flb L := by
 have hb := (okB_bounds h).2.2.2.2.2
 have : 0 ≤ flb L ∧ flb L ≤ 8 := by
  unfold flb
  split
  · omega
  · have := hb (by assumption); omega
 unfold flN; omega
theorem wdR_le {L : Lay} (h : okB L = true) (p : Nat) : wdR L p ≤ 32 := by
  have h1 := (flN_bd h).1
  have h2 := (okB_bounds h).1
  have h3 := (okB_bounds h).2.1
  unfold wdR; split
  · omega
  · split
    · omega
    · split <;> omega
theorem wR_le {L : Lay} (h : okB L = true) : ∀ p ∈ wR L, p.1 ≤ 32 := by
 intro p hp
 obtain ⟨k, _, rfl⟩ := List.mem_map.1 hp
 exact wdR_le h k
theorem wR_m (L : Lay) : ∀ p ∈ wR L, 0 < p.2 := by
 intro p hp
 obtain ⟨k, _, rfl⟩ := List.mem_map.1 hp
 show 0 < rkM k
 unfold rkM; split; decide; split <;> decide
theorem Und_atR : ∀ {ws : Ws} {xs : List Nat}, Und ws xs → ∀ {k w m x : Nat}, ws[k]? = some (w, m) → xs[k]? = some x → x < m
 | [], [], _, k, w, m, x, h, _ => by simp at h
 | [], _ :: _, h, _, _, _, _, _, _ => h.elim
 | _ :: _, [], h, _, _, _, _, _, _ => h.elim
 | (w, m) :: ws, x :: xs, h, 0, _, _, _, h1, h2 => by cases h1; cases h2; exact h.1
 | (w, m) :: ws, x :: xs, h, k + 1, _, _, _, h1, h2 => Und_atR h.2 h1 h2
theorem Und.rcf {r : List Nat} {L : Lay} (h : Und (wR L) r) : RcF r := by
 have hl := h.len
 rw [wR_len] at hl
 refine ⟨hl.symm, fun {p x} hx => ?_⟩
 have hk : p < 7 := by rw [hl]; exact (List.getElem?_eq_some_iff.1 hx).1
 exact Und_atR h (wR_at hk) hx
def fitR (L : Lay) (r : List Nat) : Bool := fitB (wR L) r
def encR (L : Lay) (r : List Nat) : List Bool := enc (wR L) r
def packR (L : Lay) (r : List Nat) : List Nat := packB (encR L r)
def bytesR (L : Lay) (rs : List (List Nat)) : List Nat := rs.flatMap (packR L)
def dcR (L : Lay) (l : List Bool) : List Nat := dec (wR L) l
def szR (L : Lay) : Nat := (tot (wR L) + 7) / 8
theorem tot_wR {L : Lay} (h : okB L = true) : tot (wR L) = flN L + 2 * L.co.toNat + L.cs.toNat * L.cm.toNat := by
 have hs := (okB_bounds h).2.2.1
 obtain ⟨c, hc⟩ : ∃ c, c = L.cs.toNat := ⟨_, rfl⟩
 have e : tot (wR L) = flN L + (L.co.toNat + (L.co.toNat + ((if 0 < L.cs.toNat then L.cm.toNat else 0) + ((if 1 < L.cs.toNat then L.cm.toNat else 0) + ((if 2 < L.cs.toNat then L.cm.toNat else 0) + ((if 3 < L.cs.toNat then L.cm.toNat else 0) + 0)))))) := rfl
 rw [e, ← hc]
 have : c = 1 ∨ c = 2 ∨ c = 3 ∨ c = 4 := by omega
 rcases this with h | h | h | h <;> rw [h] <;> simp <;> omega
theorem sizeR_eq {L : Lay} (h : okB L = true) (hty : L.ty = 4 ∨ L.ty = 5) (f : Int) : sizeZ L f = (szR L : Int) := by
 have hb := okB_bounds h
 have h1 := flN_bd h
 have e2 : L.co = (L.co.toNat : Int) := by omega
 have e3 : L.cm = (L.cm.toNat : Int) := by omega
 have e4 : L.cs = (L.cs.toNat : Int) := by omega
 have ep : ptsZ L f = 1 := by unfold ptsZ; rw [if_neg (by omega), if_neg (by omega)]
 have ec : colZ L f = 1 := by unfold colZ; rw [if_neg (by omega)]
 have et : bitsZ L f = (tot (wR L) : Int) := by
  unfold bitsZ
  rw [ep, ec, tot_wR h, Int.natCast_add, Int.natCast_add, h1.2, Int.natCast_mul, Int.natCast_mul, ← e2, ← e3, ← e4, Int.one_mul, Int.add_assoc]
  rfl
 unfold sizeZ szR
 rw [if_pos h, et]
 omega
theorem szR_bd {L : Lay} (h : okB L = true) : 1 ≤ szR L ∧ szR L ≤ 17 ∧ tot (wR L) ≤ 136 ∧ 3 ≤ tot (wR L) := by
 have hb := okB_bounds h
 have h1 := (flN_bd h).1
 have h2 := mul_bd (a := L.cs) (b := L.cm) (by omega) (by omega) (by omega) (by omega)
 have h3 := tot_wR h
 have e : ((L.cs.toNat * L.cm.toNat : Nat) : Int) = L.cs * L.cm := by rw [Int.natCast_mul]; congr 1 <;> omega
 unfold szR
 omega
theorem RcF.enc_len {r : List Nat} (h : RcF r) (L : Lay) : (encR L r).length = tot (wR L) := _root_.Go.Proofs.YtjdaglmkljbfkaaGreatDoor.enc_len (by rw [wR_len, h.len])
theorem packR_len {L : Lay} {r : List Nat} (h : RcF r) : (packR L r).length = szR L := by rw [packR, packB_len, h.enc_len]; rfl
theorem dcR_rcf (L : Lay) (l : List Bool) : RcF (dcR L l) := Und.rcf (L := L) (dec_und l (wR_m L))
theorem bytesR_append (L : Lay) (a b : List (List Nat)) : bytesR L (a ++ b) = bytesR L a ++ bytesR L b := by simp [bytesR]
theorem bytesR_lt (L : Lay) (rs : List (List Nat)) : ∀ c ∈ bytesR L rs, c < 256 := by
 intro c hc
 obtain ⟨y, _, h⟩ := List.mem_flatMap.1 hc
 exact packB_lt _ c h
theorem bytesR_len {L : Lay} : ∀ {rs : List (List Nat)}, (∀ r ∈ rs, RcF r) → (bytesR L rs).length = rs.length * szR L
 | [], _ => by simp [bytesR]
 | r :: rs, h => by
  have h1 := packR_len (L := L) (h r (List.mem_cons_self ..))
  have h3 := bytesR_len (L := L) (rs := rs) fun z hz => h z (List.mem_cons_of_mem _ hz)
  have e : bytesR L (r :: rs) = packR L r ++ bytesR L rs := by simp [bytesR]
  rw [e, List.length_append, List.length_cons, Nat.add_mul]
  omega
/-- the k-th record of bytes -/
def recAt (L : Lay) (bs : List Nat) (k : Nat) : List Nat := dcR L (byB (bs.drop (k * szR L)))
def recsB (L : Lay) (bs : List Nat) (n : Nat) : List (List Nat) := (List.range n).map (recAt L bs)
def okR (L : Lay) : Prop := okB L = true ∧ L.ty ≤ 5
theorem ty45 {L : Lay} (h : okR L) : L.ty = 4 ∨ L.ty = 5 := by
 have := (okB_bounds h.1).2.2.2.1
 have := h.2
 omega
def errRG (L : Lay) (bs : List Nat) : Int := if okB L = true ∧ L.ty ≤ 5 then (if 65536 < bs.length then 3 else if bs.length % szR L = 0 then 0 else 5) else 4
def outRG (L : Lay) (bs : List Nat) : List (List Nat) := if errRG L bs = 0 then recsB L bs (bs.length / szR L) else []
def errRP (L : Lay) (rs : List (List Nat)) : Int := if okB L = true ∧ L.ty ≤ 5 then (if rs.all (fitR L) = true then (if 65536 < (bytesR L rs).length then 3 else 0) else 1) else 4
def outRP (L : Lay) (rs : List (List Nat)) : List Nat := if errRP L rs = 0 then bytesR L rs else []
/-- records, one behind the other, in memory -/
def flatR (rs : List (List Nat)) : List Value := (rs.map rvV).flatten
theorem flatR_cons (r : List Nat) (rs : List (List Nat)) : flatR (r :: rs) = rvV r ++ flatR rs := by simp [flatR]
theorem flatR_snoc (rs : List (List Nat)) (r : List Nat) : flatR (rs ++ [r]) = flatR rs ++ rvV r := by simp [flatR]
theorem flatR_at : ∀ {rs : List (List Nat)}, (∀ r ∈ rs, RcF r) → ∀ {i : Nat} {r : List Nat}, rs[i]? = some r → i * 7 + 7 ≤ (flatR rs).length ∧ ((flatR rs).drop (i * 7)).take 7 = rvV r
 | [], _, i, r, hi => by simp at hi
 | z :: rs, h, 0, r, hi => by
  obtain rfl : z = r := by simpa using hi
  have h1 := rvV_len (h z (List.mem_cons_self ..)).len
  rw [flatR_cons, List.length_append, h1, Nat.zero_mul, List.drop_zero, List.take_append_of_le_length (by omega), List.take_of_length_le (by omega)]
  exact ⟨by omega, rfl⟩
 | z :: rs, h, i + 1, r, hi => by
  have h1 := rvV_len (h z (List.mem_cons_self ..)).len
  obtain ⟨h2, h3⟩ := flatR_at (rs := rs) (fun w hw => h w (List.mem_cons_of_mem _ hw)) (i := i) (r := r) (by simpa using hi)
  rw [flatR_cons, List.length_append, h1]
  refine ⟨by omega, ?_⟩
  rw [List.drop_append, List.drop_eq_nil_of_le (by omega), h1, List.nil_append, show (i + 1) * 7 - 7 = i * 7 by omega, h3]
theorem flatR_elem {rs : List (List Nat)} (h : ∀ r ∈ rs, RcF r) {i p : Nat} {r : List Nat} (hi : rs[i]? = some r) (hp : p < 7) : (flatR rs)[i * 7 + p]? = (rvV r)[p]? := by
 rw [← (flatR_at h hi).2, List.getElem?_take, if_pos hp, List.getElem?_drop]
theorem zip_intsR : ∀ {ks : List IntKind} {xs : List Nat}, ks.length = xs.length → (∀ (p : Nat) (k : IntKind) (x : Nat), ks[p]? = some k → xs[p]? = some x → (Lit.int k (x : Int)).wf = true) → Ints ks (List.zipWith (fun (k : IntKind) (x : Nat) => Value.int k (x : Int)) ks xs)
 | [], [], _, _ => .nil
 | [], _ :: _, h, _ => by simp at h
 | _ :: _, [], h, _ => by simp at h
 | k :: ks, x :: xs, h, hw => .cons (hw 0 k x rfl rfl) (zip_intsR (by simpa using h) fun p k x h1 h2 => hw (p + 1) k x h1 h2)
theorem rvV_ints {r : List Nat} (h : RcF r) : Ints recK (rvV r) := by
  refine zip_intsR (by rw [recK_len, h.len]) fun p k x hk hv => ?_
  have hp : p < 7 := by rw [← recK_len]; exact (List.getElem?_eq_some_iff.1 hk).1
  rw [recK_at hp] at hk
  cases hk
  have hx := h.lt hv
  have a1 : IntKind.u8.min = 0 := rfl
  have a2 : IntKind.u8.max = 255 := rfl
  have a3 : IntKind.u16.min = 0 := rfl
  have a4 : IntKind.u16.max = 65535 := rfl
  have a5 : IntKind.u32.min = 0 := rfl
  have a6 : IntKind.u32.max = 4294967295 := rfl
  unfold rkM at hx
  unfold rkK
  split
  · rename_i e; rw [if_pos e] at hx; simp only [Lit.wf, Bool.and_eq_true, decide_eq_true_eq]; omega
  · rename_i e
    rw [if_neg e] at hx
    split
    · rename_i e2; rw [if_pos e2] at hx; simp only [Lit.wf, Bool.and_eq_true, decide_eq_true_eq]; omega
    · rename_i e2; rw [if_neg e2] at hx; simp only [Lit.wf, Bool.and_eq_true, decide_eq_true_eq]; omega
theorem flatR_ints : ∀ {rs : List (List Nat)}, (∀ r ∈ rs, RcF r) → Ints (rep rs.length recK) (flatR rs)
 | [], _ => .nil
 | r :: rs, h => by
  have e2 : rep (r :: rs).length recK = recK ++ rep rs.length recK := by simp [rep, List.replicate_succ]
  rw [flatR_cons, e2]
  exact (rvV_ints (h r (List.mem_cons_self ..))).append (flatR_ints fun z hz => h z (List.mem_cons_of_mem _ hz))
end Go.Proofs.YtjdaglmkljbfkaaGreatDoor
namespace Go.Proofs.YtjdaglmkljbfkaaGreatDoor
open Go Go.Gx Go.RowKit
set_option maxRecDepth 100000
def errCR (L : Lay) : Int := if okB L = true ∧ L.ty ≤ 5 then 0 else 4
theorem rcheck0_spec (w0 : Base) (η : Heap) (hG : Sets w0) (L : Lay) :
  CallsT Tryz.prog 137 [L.val] (St w0 η) fun v A' => v = .int .i64 (errCR L) ∧ A' = St w0 η := by
 refine CallsT.body Tryz.func137 rfl rfl ?_
 simp only [Tryz.ntmps137, slotsOf, Nat.reduceAdd]
 refine Qe (Qg ?_)
 refine TL_e rfl rfl rfl (rfl) (ET_box rfl rfl) ?_
 rintro _ _ ⟨b1, rfl, rfl⟩
 refine Qa rfl rfl (Qd rfl rfl rfl) ?_
 refine Qf (Qb (Qe (Qe (Qg ?_))))
 refine Qa rfl rfl (Ql 0 rfl rfl Tryz.underlying27 rfl rfl rfl KF.sz_27) ?_
 refine TL_cq rfl rfl rfl rfl KF.cal_26 rfl (fun _ => check_spec w0 _ hG L) ?_
 refine Qa rfl rfl (QT_neq rfl rfl rfl rfl) ?_
 refine Qa rfl rfl (Qc rfl rfl rfl) ?_
 refine Qa rfl rfl (Qh rfl rfl KF.fld_27_0 rfl) ?_
 refine Qa rfl rfl (Qj 0 rfl rfl Tryz.underlying3 rfl rfl rfl (fun _ => rfl)) ?_
 refine Qa rfl rfl (QT_gtr rfl rfl rfl rfl) ?_
 refine Qa rfl rfl (QT_or rfl rfl rfl rfl) ?_
 refine Qf (Qb ?_)
 refine TC_cond rfl (fun h10 => ?_) (fun h10 => ?_)
 ·
  refine Qe (Qg ?_)
  refine Qa rfl rfl (Qd rfl rfl rfl) ?_
  refine Qf (Qb ?_)
  refine Qu ?_
  refine Qn ?_
  refine Qs (.inl rfl) (res1 rfl rfl) ⟨_, ⟨?_, rfl⟩, fun _ h => h.tail⟩
  have e : errCR L = 4 := by
   simp only [Bool.or_eq_true, decide_eq_true_eq] at h10
   unfold errCR
   rw [if_neg]
   rintro ⟨h1, h2⟩
   unfold errOf at h10
   rw [if_pos h1] at h10
   omega
  rw [e]
 ·
  refine Qt (Qb (Qe (Qg ?_)))
  refine Qa rfl rfl (Qd rfl rfl rfl) ?_
  refine Qf (Qb ?_)
  refine Qu ?_
  refine Qs (.inl rfl) (res1 rfl rfl) ⟨_, ⟨?_, rfl⟩, fun _ h => h.tail⟩
  have e : errCR L = 0 := by
   simp only [Bool.or_eq_false_iff, decide_eq_false_iff_not] at h10
   unfold errCR
   rw [if_pos]
   unfold errOf at h10
   refine ⟨?_, by omega⟩
   by_cases h1 : okB L = true
   · exact h1
   · rw [if_neg h1] at h10; omega
  rw [e]
def gF (k : Nat) : FuncId := if k = 0 then 148 else if k = 1 then 150 else if k = 2 then 152 else 154
def sF (k : Nat) : FuncId := if k = 0 then 149 else if k = 1 then 151 else if k = 2 then 153 else 155
theorem gF_ok (k : Nat) : CalleeOk Tryz.prog (gF k) := by
  unfold gF
  split
  · exact KF.cal_148
  · split
    · exact KF.cal_150
    · split
      · exact KF.cal_152
      · exact KF.cal_154
theorem sF_ok (k : Nat) : CalleeOk Tryz.prog (sF k) := by
  unfold sF
  split
  · exact KF.cal_149
  · split
    · exact KF.cal_151
    · split
      · exact KF.cal_153
      · exact KF.cal_155
def capF (ps : List Nat) (k : Nat) : Array Value := if k < 3 then #[] else #[.pointer (some ⟨ps.getD (k - 3) 0, 0, none⟩)]
def fld (L : Lay) (ps : List Nat) (k : Nat) : List Value := [.int .i64 (wdR L k : Int), .func (.func (gF k)) #[] (capF ps k), .func (.func (sF k)) #[] (capF ps k)]
def fldsC (L : Lay) (ps : List Nat) : Nat → List Value
 | 0 => []
 | n + 1 => fldsC L ps n ++ fld L ps n
theorem fldsC_len (L : Lay) (ps : List Nat) : ∀ n, (fldsC L ps n).length = n * 3
 | 0 => rfl
 | n + 1 => by rw [fldsC, List.length_append, fldsC_len L ps n, Nat.add_mul]; rfl
theorem fldsC_at (L : Lay) (ps : List Nat) : ∀ {n k j : Nat}, k < n → j < 3 → (fldsC L ps n)[k * 3 + j]? = (fld L ps k)[j]?
  | 0, k, j, h, _ => absurd h (by omega)
  | n + 1, k, j, h, hj => by
    rw [fldsC]
    by_cases e : k = n
    · subst e
      rw [List.getElem?_append_right (by rw [fldsC_len]; omega), fldsC_len, show k * 3 + j - k * 3 = j by omega]
    · rw [List.getElem?_append_left (by rw [fldsC_len]; omega)]
      exact fldsC_at L ps (by omega) hj
theorem capF_more {ps : List Nat} {p k : Nat} (h : k < 3 + ps.length) : capF (ps ++ [p]) k = capF ps k := by
 unfold capF
 by_cases hk : k < 3
 · rw [if_pos hk, if_pos hk]
 · rw [if_neg hk, if_neg hk, List.getD_eq_getElem?_getD, List.getD_eq_getElem?_getD, List.getElem?_append_left (by omega)]
theorem fldsC_more (L : Lay) {ps : List Nat} {p : Nat} : ∀ n, n ≤ 3 + ps.length → fldsC L (ps ++ [p]) n = fldsC L ps n
 | 0, _ => rfl
 | n + 1, h => by
  rw [fldsC, fldsC, fldsC_more L n (by omega)]
  unfold fld
  rw [capF_more (by omega)]
def psHeap : List Nat → Nat → Heap
 | [], _ => []
 | p :: ps, i => (p, 3, [.int .i64 (i : Int)]) :: psHeap ps (i + 1)
theorem psHeap_snoc : ∀ (ps : List Nat) (p i : Nat), psHeap (ps ++ [p]) i = psHeap ps i ++ [(p, 3, [.int .i64 ((i + ps.length : Nat) : Int)])]
 | [], p, i => rfl
 | q :: ps, p, i => by
  rw [List.cons_append, psHeap, psHeap_snoc ps p (i + 1), psHeap, List.cons_append, List.length_cons, show i + 1 + ps.length = i + (ps.length + 1) by omega]
theorem psHeap_mem : ∀ {ps : List Nat} {i c : Nat}, c < ps.length → (ps.getD c 0, 3, [.int .i64 ((i + c : Nat) : Int)]) ∈ psHeap ps i
 | [], i, c, h => absurd h (by simp)
 | p :: ps, i, 0, _ => List.mem_cons_self ..
 | p :: ps, i, c + 1, h => by
  have := psHeap_mem (ps := ps) (i := i + 1) (c := c) (by simpa using h)
  rw [show i + 1 + c = i + (c + 1) by omega] at this
  exact List.mem_cons_of_mem _ this
def zField : Value := .agg #[.int .i64 0, .nilFunc, .nilFunc]
theorem el_Field : ElemOk Tryz.prog 251 3 24 zField := .of KF.sz_251 (by kernel_rfl) (by unfold ZeroOk; kernel_rfl) (by kernel_rfl) (by decide)
theorem fld_one (L : Lay) (ps : List Nat) (k : Nat) : ∀ u ∈ fld L ps k, u.oneCell' = true := by
 intro u hu
 simp only [fld, List.mem_cons, List.not_mem_nil, or_false] at hu
 rcases hu with rfl | rfl | rfl <;> rfl
set_option maxHeartbeats 1000000 in
theorem fields_spec (w0 : Base) (η : Heap) (L : Lay) (hok : okB L = true) :
    CallsT Tryz.prog 138 [L.val] (St w0 η) fun v A' => ∃ ps H, ps.length = 4 ∧ Frag 251 3 v 7 (fldsC L ps 7) H ∧ A' = St w0 (H ++ (psHeap ps 0 ++ η)) := by
  have hfn := (flN_bd hok).2
  have hb := okB_bounds hok
  have hco : (L.co.toNat : Int) = L.co := by omega
  have hcm : (L.cm.toNat : Int) = L.cm := by omega
  have hcs : (L.cs.toNat : Int) = L.cs := by omega
  have lco : L.cells[0 + 1]? = some (.int .i64 (L.co.toNat : Int)) := by rw [hco]; rfl
  have lcm : L.cells[0 + 2]? = some (.int .i64 (L.cm.toNat : Int)) := by rw [hcm]; rfl
  have lcs : L.cells[0 + 4]? = some (.int .i64 (L.cs.toNat : Int)) := by rw [hcs]; rfl
  refine CallsT.body Tryz.func138 rfl rfl ?_
  simp only [Tryz.ntmps138, slotsOf, Nat.reduceAdd]
  refine Qe (Qg ?_)
  refine TL_e rfl rfl rfl (rfl) (ET_box rfl rfl) ?_
  rintro _ _ ⟨b1, rfl, rfl⟩
  refine Qa rfl rfl (Qd rfl rfl rfl) ?_
  refine Qf (Qb (Qe ?_))
  refine TC_A (St w0 ((b1, 27, L.cells) :: η)) (fun _ h => h) ?_
  refine Qg ?_
  refine Qa rfl rfl (Qh rfl rfl KF.fld_27_3 rfl) ?_
  refine Qa rfl rfl (Qj (v := .int .i64 L.fl) 0 rfl rfl Tryz.underlying3 rfl rfl rfl (fun _ => rfl)) ?_
  refine Qa rfl rfl (Qd rfl rfl rfl) ?_
  refine Qf (Qb ?_)
  refine TC_cut (γ := Unit) (fun _ => [(1, true, .pointer (some ⟨b1, 0, none⟩)), (3, true, .int .i64 (flN L : Int))]) (fun _ => St w0 ((b1, 27, L.cells) :: η)) ?_ ?_
  ·
    refine Qe (Qg ?_)
    refine Qa rfl rfl (Qh rfl rfl KF.fld_27_0 rfl) ?_
    refine Qa rfl rfl (Qj (v := .int .i64 L.ty) 0 rfl rfl Tryz.underlying3 rfl rfl rfl (fun _ => rfl)) ?_
    refine Qa rfl rfl (QT_eql rfl rfl rfl rfl) ?_
    refine Qf (Qb ?_)
    refine Qm rfl (fun h11 => ?_) (fun h11 => ?_)
    ·
      refine Qg ?_
      refine Qa rfl rfl (Qd rfl rfl rfl) ?_
      refine Qf ?_
      exact TX_cut () ⟨rfl, slotI rfl (by rw [hfn]; unfold flb; rw [if_pos h11]), trivial⟩ (fun _ h => h)
    ·
      refine Qt ?_
      exact TX_cut () ⟨rfl, slotI rfl (by rw [hfn]; unfold flb; rw [if_neg h11]), trivial⟩ (fun _ h => h)
  rintro ⟨⟩
  refine Qe (Qg ?_)
  refine Qa rfl rfl (Qc rfl rfl rfl) ?_
  refine Qa rfl rfl (QT_build rfl rfl KF.zero_251 KF.pl_251 rfl rfl rfl) ?_
  refine Qa rfl rfl (Qh rfl rfl KF.fld_27_1 rfl) ?_
  refine Qa rfl rfl (Qj (v := .int .i64 (L.co.toNat : Int)) 0 rfl rfl Tryz.underlying3 rfl rfl rfl (fun _ => lco)) ?_
  refine Qa rfl rfl (QT_build rfl rfl KF.zero_251 KF.pl_251 rfl rfl rfl) ?_
  refine Qa rfl rfl (Qh rfl rfl KF.fld_27_1 rfl) ?_
  refine Qa rfl rfl (Qj (v := .int .i64 (L.co.toNat : Int)) 0 rfl rfl Tryz.underlying3 rfl rfl rfl (fun _ => lco)) ?_
  refine Qa rfl rfl (QT_build rfl rfl KF.zero_251 KF.pl_251 rfl rfl rfl) ?_
  refine TL_e rfl rfl rfl (rfl) (ET_buildN [_, _, _] rfl Tryz.underlying246 KF.sz_251 KF.zero_251 rfl rfl rfl (fun v hv => by
   rcases List.mem_cons.1 hv with rfl | hv
   · rfl
   · rcases List.mem_cons.1 hv with rfl | hv
     · rfl
     · cases List.mem_singleton.1 hv; rfl)) ?_
  rintro _ _ ⟨b20, rfl, rfl⟩
  refine Qa rfl rfl (Qd rfl rfl rfl) ?_
  refine Qf (Qb (Qe (Qe (Qg ?_))))
  refine Qa rfl rfl (Qc rfl rfl rfl) ?_
  refine Qf (Qb (Qr ?_))
  refine TC_loop (γ := { t : Nat × List Nat × Value × Heap // t.1 ≤ 4 ∧ t.2.1.length = t.1 ∧ Frag 251 3 t.2.2.1 (3 + t.1) (fldsC L t.2.1 (3 + t.1)) t.2.2.2 }) (fun u => [(1, true, .pointer (some ⟨b1, 0, none⟩)), (4, true, u.1.2.2.1), (21, true, .int .i64 (u.1.1 : Int))]) (fun u => St w0 ((b1, 27, L.cells) :: (u.1.2.2.2 ++ (psHeap u.1.2.1 0 ++ η)))) (fun u => 4 - u.1.1) ⟨(0, [], _, [(b20, 251, fldsC L [] 3)]), by show 0 ≤ 4; decide, rfl, ⟨rfl, .inr ⟨b20, 3, [], rfl, ⟨Nat.le_refl 3, show 3 ≤ 9223372036854775807 by decide⟩, Nat.le_refl 9, rfl⟩⟩⟩ ⟨rfl, rfl, rfl, trivial⟩ (fun w h => (show St w0 ((b20, 251, fldsC L [] 3) :: (b1, 27, L.cells) :: η) w from h).swap) ?_
  rintro ⟨⟨i, ps, fv, H⟩, hi, hps, hF⟩
  dsimp only at hi hps hF ⊢
  refine Qe (Qg ?_)
  refine Qa rfl rfl (QT_lss rfl rfl rfl rfl) ?_
  refine Qf (Qb (Qe ?_))
  refine Qm rfl (fun h22 => ?_) (fun h22 => ?_)
  ·
    have hi4 : i < 4 := by omega
    refine Qt (Qb (Qe (Qr (Qe (Qg ?_)))))
    refine Qa rfl rfl (Qc rfl rfl rfl) ?_
    refine TL_e rfl rfl rfl (rfl) (ET_alloc rfl KF.zero_3) ?_
    rintro _ _ ⟨b5, rfl, rfl⟩
    refine TL_e0 rfl rfl (rfl) (ET_store 0 rfl rfl rfl rfl KF.sz_3 rfl rfl rfl) ?_
    rintro _ _ ⟨rfl, rfl⟩
    refine Qf (Qb (Qe (Qg ?_)))
    refine Qa rfl rfl (Qh rfl rfl KF.fld_27_2 rfl) ?_
    refine Qa rfl rfl (Qj (v := .int .i64 (L.cm.toNat : Int)) 1 rfl rfl Tryz.underlying3 rfl rfl rfl (fun _ => lcm)) ?_
    refine Qa rfl rfl (Qd rfl rfl rfl) ?_
    refine Qf (Qb ?_)
    refine TC_cut (γ := Unit) (fun _ => [(1, true, .pointer (some ⟨b1, 0, none⟩)), (4, true, fv), (5, true, .pointer (some ⟨b5, 0, none⟩)), (6, true, .int .i64 (wdR L (3 + i) : Int)), (21, true, .int .i64 (i : Int))]) (fun _ => St w0 ((b5, 3, [.int .i64 (i : Int)]) :: (b1, 27, L.cells) :: (H ++ (psHeap ps 0 ++ η)))) ?_ ?_
    ·
      refine Qe (Qg ?_)
      refine Qa rfl rfl (Qj 0 rfl rfl Tryz.underlying3 rfl rfl rfl (fun _ => rfl)) ?_
      refine Qa rfl rfl (Qh rfl rfl KF.fld_27_4 rfl) ?_
      refine Qa rfl rfl (Qj (v := .int .i64 (L.cs.toNat : Int)) 1 rfl rfl Tryz.underlying3 rfl rfl rfl (fun _ => lcs)) ?_
      refine Qa rfl rfl (QT_geq rfl rfl rfl rfl) ?_
      refine Qf (Qb ?_)
      refine Qm rfl (fun h29 => ?_) (fun h29 => ?_)
      ·
        refine Qg ?_
        refine Qa rfl rfl (Qd rfl rfl rfl) ?_
        refine Qf ?_
        exact TX_cut () ⟨rfl, rfl, rfl, slotI rfl (by unfold wdR; rw [if_neg (by omega), if_neg (by omega), if_neg (by omega)]; rfl), rfl, trivial⟩ (fun _ h => h)
      ·
        refine Qt ?_
        exact TX_cut () ⟨rfl, rfl, rfl, slotI rfl (by unfold wdR; rw [if_neg (by omega), if_neg (by omega), if_pos (by omega)]), rfl, trivial⟩ (fun _ h => h)
    rintro ⟨⟩
    have hnew : fld L (ps ++ [b5]) (3 + i) = [.int .i64 (wdR L (3 + i) : Int), .func (.func 154) #[] #[.pointer (some ⟨b5, 0, none⟩)], .func (.func 155) #[] #[.pointer (some ⟨b5, 0, none⟩)]] := by
      unfold fld capF gF sF
      rw [if_neg (by omega), if_neg (by omega), if_neg (by omega), if_neg (by omega), if_neg (by omega), if_neg (by omega), if_neg (by omega), List.getD_eq_getElem?_getD, List.getElem?_append_right (by omega), show 3 + i - 3 - ps.length = 0 by omega]
      rfl
    have hone := fld_one L (ps ++ [b5]) (3 + i)
    refine Qg ?_
    refine Qa rfl rfl (Qc rfl rfl rfl) ?_
    refine Qa rfl rfl (Qc rfl rfl rfl) ?_
    refine Qa rfl rfl (QT_makeFunc rfl rfl rfl rfl) ?_
    refine Qa rfl rfl (QT_makeFunc rfl rfl rfl rfl) ?_
    refine Qa rfl rfl (QT_build rfl rfl KF.zero_251 KF.pl_251 rfl rfl rfl) ?_
    refine TL_e rfl rfl rfl (rfl) (ET_buildN [_] rfl Tryz.underlying246 KF.sz_251 KF.zero_251 rfl rfl rfl (fun v hv => by cases List.mem_singleton.1 hv; rfl)) ?_
    rintro _ _ ⟨b35, rfl, rfl⟩
    refine TL_e rfl rfl rfl (rfl) (ET_appendL (L := [_, _, _]) rfl Tryz.underlying246 el_Field rfl rfl hF (fun _ h => h) (SlA.own (n := 1) (xs := fld L (ps ++ [b5]) (3 + i)) 0 rfl (by rw [hnew]; rfl) (show 0 + 1 * 3 ≤ 3 from Nat.le_refl 3) (by omega)) hone (by omega) (by omega)) ?_
    rintro fv2 _ ⟨H', hF', rfl⟩
    refine Qa rfl rfl (Qd rfl rfl rfl) ?_
    refine Qf ?_
    refine Qo ?_
    refine Qb (Qg ?_)
    refine Qa rfl rfl (Zb rfl rfl rfl rfl (fun _ => ⟨by omega, by omega⟩)) ?_
    refine Qa rfl rfl (Qc rfl rfl rfl) ?_
    refine Qf ?_
    refine TX_round ⟨(i + 1, ps ++ [b5], fv2, H'), by show i + 1 ≤ 4; omega, by rw [List.length_append, hps]; rfl, ?_⟩ (by show 4 - (i + 1) < 4 - i; omega) ⟨rfl, rfl, rfl, trivial⟩ (fun w h => ?_)
    · show Frag _ 3 fv2 (3 + (i + 1)) (fldsC L (ps ++ [b5]) (3 + (i + 1))) H'
      rw [show 3 + (i + 1) = (3 + i) + 1 by omega, fldsC, fldsC_more L (3 + i) (by omega)]
      exact hF'
    · show St w0 ((b1, 27, L.cells) :: (H' ++ (psHeap (ps ++ [b5]) 0 ++ η))) w
      rw [psHeap_snoc, hps, Nat.zero_add]
      have h' : St w0 ((b35, 251, _) :: (b5, 3, [.int .i64 (i : Int)]) :: (b1, 27, L.cells) :: (H' ++ (psHeap ps 0 ++ η))) w := h
      exact h'.tail.cnt fun p => by simp only [List.countP_append, List.countP_cons, List.countP_nil]; omega
  ·
    refine Zd ?_
    refine Qi (Qi ?_)
    refine Qp ?_
    refine Qb (Qe (Qg ?_))
    refine Qa rfl rfl (Qc rfl rfl rfl) ?_
    refine Qa rfl rfl (Qd rfl rfl rfl) ?_
    refine Qf (Qb ?_)
    refine Qu ?_
    obtain rfl : i = 4 := by omega
    exact Qs (.inl rfl) (res1 rfl rfl) ⟨_, ⟨ps, H, hps, hF, rfl⟩, fun _ h => h.tail⟩
end Go.Proofs.YtjdaglmkljbfkaaGreatDoor
namespace Go.Proofs.YtjdaglmkljbfkaaGreatDoor
open Go Go.Gx Go.RowKit
set_option maxRecDepth 100000
theorem wrapR8 (x : Nat) : IntKind.u8.wrap (x : Int) = ((x % 256 : Nat) : Int) := by
 show (x : Int) % 256 = _
 omega
theorem wrapR16 (x : Nat) : IntKind.u16.wrap (x : Int) = ((x % 65536 : Nat) : Int) := by
 show (x : Int) % 65536 = _
 omega
theorem QT_v0 {P : Program} {n : Nat} {ops : Array Oper} {o : Oper} {σ : Slots} {A : World → Prop} {g : Bool} {v v' : Value} (h : QT P n ops o σ A g v) (e : v = v') : QT P n ops o σ A g v' := e ▸ h
theorem get_0 (w0 : Base) (η : Heap) (xb : Nat) (r : List Nat) (x : Nat) (hr : RcF r) (hx : r[0]? = some x) (hX : Rd (St w0 η) xb 0 (rvV r)) :
  CallsT Tryz.prog 148 [.pointer (some ⟨xb, 0, none⟩)] (St w0 η) fun v A' => v = .int .u32 (x : Int) ∧ A' = St w0 η := by
 have hv := rvV_at (xs := r) (p := 0) (by decide) hx
 have hlt := hr.lt hx
 refine CallsT.body Tryz.func148 rfl rfl ?_
 simp only [Tryz.ntmps148, slotsOf, Nat.reduceAdd]
 refine Qe (Qg ?_)
 refine Qa rfl rfl (Qd rfl rfl rfl) ?_
 refine Qf (Qb (Qe (Qg ?_)))
 refine Qa rfl rfl (Qc rfl rfl rfl) ?_
 refine Qa rfl rfl (Qv rfl rfl rfl) ?_
 refine Qa rfl rfl (Qh rfl rfl KF.fld_77_0 rfl) ?_
 refine Qa rfl rfl (Qw (v := .int .u8 (x : Int)) 0 rfl rfl Tryz.underlying5 rfl hX rfl (fun _ => hv)) ?_
 refine Qa rfl rfl (QT_convN rfl rfl Tryz.underlying5 Tryz.underlying70 rfl (IntWalk.u32_in _ ⟨by omega, by have : rkM 0 = 256 := rfl; omega⟩)) ?_
 refine Qa rfl rfl (Qd rfl rfl rfl) ?_
 refine Qf (Qb ?_)
 refine Qu ?_
 exact Qs (.inl rfl) (res1 rfl rfl) ⟨_, ⟨rfl, rfl⟩, fun _ h => h⟩
theorem get_1 (w0 : Base) (η : Heap) (xb : Nat) (r : List Nat) (x : Nat) (hr : RcF r) (hx : r[1]? = some x) (hX : Rd (St w0 η) xb 0 (rvV r)) :
  CallsT Tryz.prog 150 [.pointer (some ⟨xb, 0, none⟩)] (St w0 η) fun v A' => v = .int .u32 (x : Int) ∧ A' = St w0 η := by
 have hv := rvV_at (xs := r) (p := 1) (by decide) hx
 have hlt := hr.lt hx
 refine CallsT.body Tryz.func150 rfl rfl ?_
 simp only [Tryz.ntmps150, slotsOf, Nat.reduceAdd]
 refine Qe (Qg ?_)
 refine Qa rfl rfl (Qd rfl rfl rfl) ?_
 refine Qf (Qb (Qe (Qg ?_)))
 refine Qa rfl rfl (Qc rfl rfl rfl) ?_
 refine Qa rfl rfl (Qv rfl rfl rfl) ?_
 refine Qa rfl rfl (Qh rfl rfl KF.fld_77_1 rfl) ?_
 refine Qa rfl rfl (Qh rfl rfl KF.fld_72_0 rfl) ?_
 refine Qa rfl rfl (Qw (v := .int .u32 (x : Int)) 1 rfl rfl Tryz.underlying70 rfl hX rfl (fun _ => hv)) ?_
 refine Qa rfl rfl (Qd rfl rfl rfl) ?_
 refine Qf (Qb ?_)
 refine Qu ?_
 exact Qs (.inl rfl) (res1 rfl rfl) ⟨_, ⟨rfl, rfl⟩, fun _ h => h⟩
theorem get_2 (w0 : Base) (η : Heap) (xb : Nat) (r : List Nat) (x : Nat) (hr : RcF r) (hx : r[2]? = some x) (hX : Rd (St w0 η) xb 0 (rvV r)) :
  CallsT Tryz.prog 152 [.pointer (some ⟨xb, 0, none⟩)] (St w0 η) fun v A' => v = .int .u32 (x : Int) ∧ A' = St w0 η := by
 have hv := rvV_at (xs := r) (p := 2) (by decide) hx
 have hlt := hr.lt hx
 refine CallsT.body Tryz.func152 rfl rfl ?_
 simp only [Tryz.ntmps152, slotsOf, Nat.reduceAdd]
 refine Qe (Qg ?_)
 refine Qa rfl rfl (Qd rfl rfl rfl) ?_
 refine Qf (Qb (Qe (Qg ?_)))
 refine Qa rfl rfl (Qc rfl rfl rfl) ?_
 refine Qa rfl rfl (Qv rfl rfl rfl) ?_
 refine Qa rfl rfl (Qh rfl rfl KF.fld_77_1 rfl) ?_
 refine Qa rfl rfl (Qh rfl rfl KF.fld_72_1 rfl) ?_
 refine Qa rfl rfl (Qw (v := .int .u32 (x : Int)) 2 rfl rfl Tryz.underlying70 rfl hX rfl (fun _ => hv)) ?_
 refine Qa rfl rfl (Qd rfl rfl rfl) ?_
 refine Qf (Qb ?_)
 refine Qu ?_
 exact Qs (.inl rfl) (res1 rfl rfl) ⟨_, ⟨rfl, rfl⟩, fun _ h => h⟩
theorem get_3 (w0 : Base) (η : Heap) (xb pb c : Nat) (r : List Nat) (x : Nat) (hr : RcF r) (hc : c < 4) (hx : r[3 + c]? = some x) (hX : Rd (St w0 η) xb 0 (rvV r)) (hP : Rd (St w0 η) pb 0 [.int .i64 (c : Int)]) :
  CallsT Tryz.prog 154 [.pointer (some ⟨xb, 0, none⟩), .pointer (some ⟨pb, 0, none⟩)] (St w0 η) fun v A' => v = .int .u32 (x : Int) ∧ A' = St w0 η := by
 have hv := rvV_at (xs := r) (p := 3 + c) (by omega) hx
 rw [show rkK (3 + c) = .u16 by unfold rkK; rw [if_neg (by omega), if_neg (by omega)]] at hv
 have hlt := hr.lt hx
 have hm : rkM (3 + c) = 65536 := by unfold rkM; rw [if_neg (by omega), if_neg (by omega)]
 refine CallsT.body Tryz.func154 rfl rfl ?_
 simp only [Tryz.ntmps154, slotsOf, Nat.reduceAdd]
 refine Qe (Qg ?_)
 refine Qa rfl rfl (Qd rfl rfl rfl) ?_
 refine Qf (Qb (Qe ?_))
 refine TC_draw [(0, 0), (1, 0), (2, 0), (3, 0), (4, 0), (5, 0), (6, 0), (7, 0)] KF.mixed (by kernel_rfl) (St.calm _ _) ?_
 refine Qk rfl rfl rfl (fun _ => Qc rfl rfl rfl) ?_
 refine Qz rfl rfl rfl (Qw (v := .int .i64 (c : Int)) 0 rfl rfl Tryz.underlying3 rfl hP rfl (fun _ => rfl)) ?_
 refine Qk rfl rfl rfl (fun _ => Qv rfl rfl rfl) ?_
 refine Qk rfl rfl rfl (fun _ => Qh rfl rfl KF.fld_77_2 rfl) ?_
 refine Qk rfl rfl rfl (fun _ => QT_indexArr c rfl rfl Tryz.underlying75 KF.sz_73 rfl rfl rfl (fun _ => hc)) ?_
 refine Qz rfl rfl rfl (Qw (v := .int .u16 (x : Int)) (3 + c) rfl rfl Tryz.underlying73 rfl hX rfl (fun _ => hv)) ?_
 refine Qk rfl rfl rfl (fun _ => QT_convN rfl rfl Tryz.underlying73 Tryz.underlying70 rfl (IntWalk.u32_in _ ⟨by omega, by omega⟩)) ?_
 refine Qk rfl rfl rfl (fun _ => Qd rfl rfl rfl) ?_
 refine TV_end (Qb ?_)
 refine Qu ?_
 exact Qs (.inl rfl) (res1 rfl rfl) ⟨_, ⟨rfl, rfl⟩, fun _ h => h⟩
theorem set_0 (w0 : Base) (η : Heap) (xb : Nat) (r : List Nat) (v : Nat) (hr : r.length = 7) (hv : v < 4294967296) :
  CallsT Tryz.prog 149 [.pointer (some ⟨xb, 0, none⟩), .int .u32 (v : Int)] (St w0 ((xb, 77, rvV r) :: η)) fun z A' => z = .tuple #[] ∧ A' = St w0 ((xb, 77, rvV (r.set 0 (v % rkM 0))) :: η) := by
 have hs := rvV_set (xs := r) (p := 0) (v := v % rkM 0) (by decide)
 have hble : Nat.ble (0 + 1) (rvV r).length = true := by rw [rvV_len hr]; rfl
 refine CallsT.body Tryz.func149 rfl rfl ?_
 simp only [Tryz.ntmps149, slotsOf, Nat.reduceAdd]
 refine Qg ?_
 refine Qa rfl rfl (Qc rfl rfl rfl) ?_
 refine Qa rfl rfl (Qc rfl rfl rfl) ?_
 refine Qa rfl rfl (QT_convN rfl rfl Tryz.underlying70 Tryz.underlying5 rfl (wrapR8 v)) ?_
 refine Qa rfl rfl (Qv rfl rfl rfl) ?_
 refine Qa rfl rfl (Qh rfl rfl KF.fld_77_0 rfl) ?_
 refine TL_e0 rfl rfl (rfl) (ET_store (vs := [.int .u8 ((v % rkM 0 : Nat) : Int)]) 0 rfl rfl rfl rfl KF.sz_5 rfl rfl hble) ?_
 rintro _ _ ⟨rfl, rfl⟩
 refine Qf ?_
 refine Qs (.inr rfl) (res0 rfl) ⟨_, ⟨rfl, rfl⟩, fun w h => ?_⟩
 rw [← hs]
 exact h
theorem set_1 (w0 : Base) (η : Heap) (xb : Nat) (r : List Nat) (v : Nat) (hr : r.length = 7) (hv : v < 4294967296) :
  CallsT Tryz.prog 151 [.pointer (some ⟨xb, 0, none⟩), .int .u32 (v : Int)] (St w0 ((xb, 77, rvV r) :: η)) fun z A' => z = .tuple #[] ∧ A' = St w0 ((xb, 77, rvV (r.set 1 (v % rkM 1))) :: η) := by
 have hs := rvV_set (xs := r) (p := 1) (v := v % rkM 1) (by decide)
 have hble : Nat.ble (1 + 1) (rvV r).length = true := by rw [rvV_len hr]; rfl
 refine CallsT.body Tryz.func151 rfl rfl ?_
 simp only [Tryz.ntmps151, slotsOf, Nat.reduceAdd]
 refine Qg ?_
 refine Qa rfl rfl (Qc rfl rfl rfl) ?_
 refine Qa rfl rfl (QT_v0 (Qc rfl rfl rfl) (show Value.int .u32 (v : Int) = .int .u32 ((v % rkM 1 : Nat) : Int) by rw [Nat.mod_eq_of_lt (show v < rkM 1 from hv)])) ?_
 refine Qa rfl rfl (Qv rfl rfl rfl) ?_
 refine Qa rfl rfl (Qh rfl rfl KF.fld_77_1 rfl) ?_
 refine Qa rfl rfl (Qh rfl rfl KF.fld_72_0 rfl) ?_
 refine TL_e0 rfl rfl (rfl) (ET_store (vs := [.int .u32 ((v % rkM 1 : Nat) : Int)]) 0 rfl rfl rfl rfl KF.sz_70 rfl rfl hble) ?_
 rintro _ _ ⟨rfl, rfl⟩
 refine Qf ?_
 refine Qs (.inr rfl) (res0 rfl) ⟨_, ⟨rfl, rfl⟩, fun w h => ?_⟩
 rw [← hs]
 exact h
theorem set_2 (w0 : Base) (η : Heap) (xb : Nat) (r : List Nat) (v : Nat) (hr : r.length = 7) (hv : v < 4294967296) :
  CallsT Tryz.prog 153 [.pointer (some ⟨xb, 0, none⟩), .int .u32 (v : Int)] (St w0 ((xb, 77, rvV r) :: η)) fun z A' => z = .tuple #[] ∧ A' = St w0 ((xb, 77, rvV (r.set 2 (v % rkM 2))) :: η) := by
 have hs := rvV_set (xs := r) (p := 2) (v := v % rkM 2) (by decide)
 have hble : Nat.ble (2 + 1) (rvV r).length = true := by rw [rvV_len hr]; rfl
 refine CallsT.body Tryz.func153 rfl rfl ?_
 simp only [Tryz.ntmps153, slotsOf, Nat.reduceAdd]
 refine Qg ?_
 refine Qa rfl rfl (Qc rfl rfl rfl) ?_
 refine Qa rfl rfl (QT_v0 (Qc rfl rfl rfl) (show Value.int .u32 (v : Int) = .int .u32 ((v % rkM 2 : Nat) : Int) by rw [Nat.mod_eq_of_lt (show v < rkM 2 from hv)])) ?_
 refine Qa rfl rfl (Qv rfl rfl rfl) ?_
 refine Qa rfl rfl (Qh rfl rfl KF.fld_77_1 rfl) ?_
 refine Qa rfl rfl (Qh rfl rfl KF.fld_72_1 rfl) ?_
 refine TL_e0 rfl rfl (rfl) (ET_store (vs := [.int .u32 ((v % rkM 2 : Nat) : Int)]) 0 rfl rfl rfl rfl KF.sz_70 rfl rfl hble) ?_
 rintro _ _ ⟨rfl, rfl⟩
 refine Qf ?_
 refine Qs (.inr rfl) (res0 rfl) ⟨_, ⟨rfl, rfl⟩, fun w h => ?_⟩
 rw [← hs]
 exact h
theorem set_3 (w0 : Base) (η : Heap) (xb pb c : Nat) (r : List Nat) (v : Nat) (hr : r.length = 7) (hc : c < 4) (hP : Rd (St w0 η) pb 0 [.int .i64 (c : Int)]) :
  CallsT Tryz.prog 155 [.pointer (some ⟨xb, 0, none⟩), .int .u32 (v : Int), .pointer (some ⟨pb, 0, none⟩)] (St w0 ((xb, 77, rvV r) :: η)) fun z A' => z = .tuple #[] ∧ A' = St w0 ((xb, 77, rvV (r.set (3 + c) (v % rkM (3 + c)))) :: η) := by
 have hm : rkM (3 + c) = 65536 := by unfold rkM; rw [if_neg (by omega), if_neg (by omega)]
 have hk : rkK (3 + c) = .u16 := by unfold rkK; rw [if_neg (by omega), if_neg (by omega)]
 have hs := rvV_set (xs := r) (p := 3 + c) (v := v % rkM (3 + c)) (by omega)
 rw [hk, hm] at hs
 rw [hm]
 have hble : Nat.ble (0 + 3 + c * 1 + 1) (rvV r).length = true := Nat.ble_eq_true_of_le (by rw [rvV_len hr]; omega)
 refine CallsT.body Tryz.func155 rfl rfl ?_
 simp only [Tryz.ntmps155, slotsOf, Nat.reduceAdd]
 refine TC_draw [(0, 0), (1, 0), (2, 0), (3, 0), (4, 0), (5, 0), (6, 0), (7, 1)] KF.mixed (by kernel_rfl) (St.calm _ _) ?_
 refine Qk rfl rfl rfl (fun _ => Qc rfl rfl rfl) ?_
 refine Qz rfl rfl rfl (Qw (v := .int .i64 (c : Int)) 0 rfl rfl Tryz.underlying3 rfl (hP.mono fun _ h => h.tail) rfl (fun _ => rfl)) ?_
 refine Qk rfl rfl rfl (fun _ => Qc rfl rfl rfl) ?_
 refine Qk rfl rfl rfl (fun _ => QT_convN rfl rfl Tryz.underlying70 Tryz.underlying73 rfl (wrapR16 v)) ?_
 refine Qk rfl rfl rfl (fun _ => Qv rfl rfl rfl) ?_
 refine Qk rfl rfl rfl (fun _ => Qh rfl rfl KF.fld_77_2 rfl) ?_
 refine Qk rfl rfl rfl (fun _ => QT_indexArr c rfl rfl Tryz.underlying75 KF.sz_73 rfl rfl rfl (fun _ => hc)) ?_
 refine TV_e0 rfl rfl rfl (rfl) (ET_store (vs := [.int .u16 ((v % 65536 : Nat) : Int)]) 0 rfl rfl rfl rfl KF.sz_73 rfl rfl hble) ?_
 rintro _ _ ⟨rfl, rfl⟩
 refine ⟨_, .drop (by kernel_rfl) (.nil), ?_⟩
 refine TV_end ?_
 refine Qs (.inr rfl) (res0 rfl) ⟨_, ⟨rfl, rfl⟩, fun w h => ?_⟩
 rw [← hs]
 have h' : St w0 ((xb, 77, (rvV r).set (0 + 3 + c * 1) (.int .u16 ((v % 65536 : Nat) : Int))) :: η) w := h
 rw [show 0 + 3 + c * 1 = 3 + c by omega] at h'
 exact h'
/-- the closures' own numbers -/
def PsOk (A : World → Prop) (ps : List Nat) : Prop := ∀ c, c < 4 → Rd A (ps.getD c 0) 0 [.int .i64 (c : Int)]
theorem psOk_of {w0 : Base} {η : Heap} {ps : List Nat} (h : ps.length = 4) (hs : ∀ p : Blk → Bool, (psHeap ps 0).countP p ≤ η.countP p) : PsOk (St w0 η) ps := fun c hc => by
 have hm := psHeap_mem (ps := ps) (i := 0) (c := c) (by omega)
 rw [Nat.zero_add] at hm
 exact (Rd.ownA (w0 := w0) (η := psHeap ps 0) hm 0 rfl).mono fun w h => h.cnt hs
theorem getter_spec (w0 : Base) (η : Heap) (ps : List Nat) (k xb : Nat) (r : List Nat) (x : Nat) (hk : k < 7) (hr : RcF r) (hx : r[k]? = some x) (hX : Rd (St w0 η) xb 0 (rvV r)) (hP : PsOk (St w0 η) ps) :
  CallsT Tryz.prog (gF k) ([.pointer (some ⟨xb, 0, none⟩)] ++ (capF ps k).toList) (St w0 η) fun v A' => v = .int .u32 (x : Int) ∧ A' = St w0 η := by
 match k, hk with
 | 0, _ => exact get_0 w0 η xb r x hr hx hX
 | 1, _ => exact get_1 w0 η xb r x hr hx hX
 | 2, _ => exact get_2 w0 η xb r x hr hx hX
 | 3, _ => exact get_3 w0 η xb _ 0 r x hr (by decide) hx hX (hP 0 (by decide))
 | 4, _ => exact get_3 w0 η xb _ 1 r x hr (by decide) hx hX (hP 1 (by decide))
 | 5, _ => exact get_3 w0 η xb _ 2 r x hr (by decide) hx hX (hP 2 (by decide))
 | 6, _ => exact get_3 w0 η xb _ 3 r x hr (by decide) hx hX (hP 3 (by decide))
 | k + 7, h => exact absurd h (by omega)
theorem setter_spec (w0 : Base) (η : Heap) (ps : List Nat) (k xb : Nat) (r : List Nat) (v : Nat) (hk : k < 7) (hr : r.length = 7) (hv : v < 4294967296) (hP : PsOk (St w0 η) ps) :
  CallsT Tryz.prog (sF k) ([.pointer (some ⟨xb, 0, none⟩), .int .u32 (v : Int)] ++ (capF ps k).toList) (St w0 ((xb, 77, rvV r) :: η)) fun z A' => z = .tuple #[] ∧ A' = St w0 ((xb, 77, rvV (r.set k (v % rkM k))) :: η) := by
 match k, hk with
 | 0, _ => exact set_0 w0 η xb r v hr hv
 | 1, _ => exact set_1 w0 η xb r v hr hv
 | 2, _ => exact set_2 w0 η xb r v hr hv
 | 3, _ => exact set_3 w0 η xb _ 0 r v hr (by decide) (hP 0 (by decide))
 | 4, _ => exact set_3 w0 η xb _ 1 r v hr (by decide) (hP 1 (by decide))
 | 5, _ => exact set_3 w0 η xb _ 2 r v hr (by decide) (hP 2 (by decide))
 | 6, _ => exact set_3 w0 η xb _ 3 r v hr (by decide) (hP 3 (by decide))
 | k + 7, h => exact absurd h (by omega)
/-- numbers read one behind the other -/
def decN : Ws → List Bool → List Nat
 | [], _ => []
 | (w, _) :: r, l => num (l.take w) :: decN r (l.drop w)
theorem decN_len : ∀ (ws : Ws) (l : List Bool), (decN ws l).length = ws.length
 | [], _ => rfl
 | (w, m) :: r, l => by simp [decN, decN_len r]
theorem decN_at : ∀ {ws : Ws} {l : List Bool} {k w m : Nat}, ws[k]? = some (w, m) → (decN ws l)[k]? = some (num ((l.drop (tot (ws.take k))).take w))
 | [], l, k, w, m, h => by simp at h
 | (w, m) :: ws, l, 0, _, _, h => by
  cases h
  rfl
 | (w, m) :: ws, l, k + 1, _, _, h => by
  rw [decN, List.getElem?_cons_succ, decN_at (ws := ws) (l := l.drop w) (k := k) (by simpa using h), List.take_succ_cons, tot_cons, List.drop_drop]
theorem dec_at : ∀ {ws : Ws} {l : List Bool} {k w m : Nat}, ws[k]? = some (w, m) → (dec ws l)[k]? = some (num ((l.drop (tot (ws.take k))).take w) % m)
 | [], l, k, w, m, h => by simp at h
 | (w, m) :: ws, l, 0, _, _, h => by
  cases h
  rfl
 | (w, m) :: ws, l, k + 1, _, _, h => by
  rw [dec, List.getElem?_cons_succ, dec_at (ws := ws) (l := l.drop w) (k := k) (by simpa using h), List.take_succ_cons, tot_cons, List.drop_drop]
def u32V (vs : List Nat) : List Value := vs.map fun (v : Nat) => Value.int .u32 (v : Int)
def wV (ws : Ws) : List Value := ws.map fun p => Value.int .i64 (p.1 : Int)
theorem el_U32 : ElemOk Tryz.prog 70 1 4 (.int .u32 0) := .of KF.sz_70 (by kernel_rfl) (by unfold ZeroOk; kernel_rfl) (by kernel_rfl) (by decide)
theorem tot_takeR (ws : Ws) (k : Nat) : tot (ws.take k) ≤ tot ws := by
 have := tot_append (ws.take k) (ws.drop k)
 rw [List.take_append_drop] at this
 omega
theorem tot_stepR {ws : Ws} {k w m : Nat} (h : ws[k]? = some (w, m)) : tot (ws.take (k + 1)) = tot (ws.take k) + w := by
 rw [List.take_add_one, h, tot_append]
 simp [tot]
theorem read_spec (w0 : Base) (η : Heap) (bv mv : Value) (bs : List Nat) (ws : Ws) (hs : SlA (St w0 η) bv 1 bs.length (byV bs)) (hb : ∀ c ∈ bs, c < 256) (hl : bs.length ≤ 1000000) (hm : SlA (St w0 η) mv 1 ws.length (wV ws)) (hwn : ws.length ≤ 1000) (hw : ∀ p ∈ ws, p.1 ≤ 32) (ht : tot ws ≤ 8 * bs.length) :
  CallsT Tryz.prog 140 [bv, mv] (St w0 η) fun v A' => ∃ H, Frag 70 1 v ws.length (u32V (decN ws (byB bs))) H ∧ A' = St w0 (H ++ η) := by
 obtain ⟨_, mad, mcap, mb, mo, rfl, hmcap, hmad, hmrd⟩ := hm.some
 refine CallsT.body Tryz.func140 rfl rfl ?_
 simp only [Tryz.ntmps140, slotsOf, Nat.reduceAdd]
 refine Qe (Qg ?_)
 refine Qa rfl rfl (Qd rfl rfl rfl) ?_
 refine Qf (Qb (Qe (Qg ?_)))
 refine Qa rfl rfl (Qd rfl rfl rfl) ?_
 refine Qf (Qb (Qe (Qg ?_)))
 refine Qa rfl rfl (Qd rfl rfl rfl) ?_
 refine Qf (Qb (Qe (Qe (Qg ?_))))
 refine Qa rfl rfl (Qc rfl rfl rfl) ?_
 refine Qa rfl rfl (Za rfl rfl Tryz.underlying175 rfl) ?_
 refine Qa rfl rfl (Qc rfl rfl rfl) ?_
 refine Qf (Qb (Qr ?_))
 refine TC_loop (γ := { t : Nat × Value × Heap // t.1 ≤ ws.length ∧ Frag 70 1 t.2.1 t.1 (u32V ((decN ws (byB bs)).take t.1)) t.2.2 }) (fun u => [(0, true, bv), (5, true, u.1.2.1), (6, true, .int .i64 (tot (ws.take u.1.1) : Int)), (11, true, .slice mad ws.length mcap), (12, true, .int .i64 (ws.length : Int)), (13, true, .int .i64 (u.1.1 : Int))]) (fun u => St w0 (u.1.2.2 ++ η)) (fun u => ws.length - u.1.1) ⟨(0, .slice none 0 0, []), Nat.zero_le _, Frag.nil _ _⟩ ⟨rfl, rfl, rfl, rfl, rfl, rfl, trivial⟩ (fun _ h => h) ?_
 rintro ⟨⟨i, ov, H⟩, hi, hF⟩
 dsimp only at hi hF ⊢
 refine Qe (Qg ?_)
 refine Qa rfl rfl (QT_lss rfl rfl rfl rfl) ?_
 refine Qf (Qb (Qe ?_))
 refine Qm rfl (fun h14 => ?_) (fun h14 => ?_)
 ·
  have hi' : i < ws.length := by omega
  obtain ⟨p, hpi⟩ : ∃ p, ws[i]? = some p := ⟨_, List.getElem?_eq_getElem hi'⟩
  obtain ⟨w1, m1⟩ := p
  have hw1 : w1 ≤ 32 := hw _ (List.mem_of_getElem? hpi)
  have hts := tot_stepR hpi
  have htt := tot_takeR ws (i + 1)
  have hwv : (wV ws)[i]? = some (.int .i64 (w1 : Int)) := by simp [wV, hpi]
  have hgv := getV_ok (bs := bs) (p := tot (ws.take i)) hw1 (by omega)
  have hdn := decN_at (l := byB bs) hpi
  rw [← hgv] at hdn
  have htk : u32V ((decN ws (byB bs)).take (i + 1)) = u32V ((decN ws (byB bs)).take i) ++ [.int .u32 (getV bs ((tot (ws.take i) : Nat) : Int) (w1 : Int) : Int)] := by
   rw [List.take_add_one, hdn]
   simp [u32V]
  generalize tot (ws.take i) = at1 at hts hgv hdn htk
  refine Qt (Qb (Qe (Qr (Qe (Qg ?_)))))
  refine Qa rfl rfl (QT_indexG i rfl rfl Tryz.underlying175 KF.sz_3 rfl rfl rfl (fun _ => hi') (fun _ => hmad (by omega))) ?_
  refine Qa rfl rfl (Qw (v := .int .i64 (w1 : Int)) i rfl rfl Tryz.underlying3 rfl (hmrd.mono fun _ h => h.app_right) rfl (fun _ => hwv)) ?_
  refine Qa rfl rfl (Qd rfl rfl rfl) ?_
  refine Qf (Qb (Qe (Qg ?_)))
  refine Qa rfl rfl (Qc rfl rfl rfl) ?_
  refine Qa rfl rfl (Qc rfl rfl rfl) ?_
  refine Qa rfl rfl (Qc rfl rfl rfl) ?_
  refine TL_cq rfl rfl rfl rfl KF.cal_157 rfl (fun _ => get_spec w0 _ bv bs _ _ (hs.mono fun _ h => h.app_right) hb ⟨by omega, by omega⟩ ⟨by omega, by omega⟩ (by omega)) ?_
  refine Qa rfl rfl (Qc rfl rfl rfl) ?_
  refine Qa rfl rfl (Qx rfl rfl rfl rfl) ?_
  refine Qa rfl rfl (Qx rfl rfl rfl rfl) ?_
  refine Qa rfl rfl (Qd rfl rfl rfl) ?_
  refine Qa rfl rfl (Qd rfl rfl rfl) ?_
  refine Qf (Qb (Qg ?_))
  refine Qa rfl rfl (Qc rfl rfl rfl) ?_
  refine Qa rfl rfl (Qc rfl rfl rfl) ?_
  refine TL_e rfl rfl rfl (rfl) (ET_buildN [_] rfl Tryz.underlying255 KF.sz_70 KF.zero_70 rfl rfl rfl (fun v hv => by cases List.mem_singleton.1 hv; rfl)) ?_
  rintro _ _ ⟨b26, rfl, rfl⟩
  refine TL_e rfl rfl rfl (rfl) (ET_appendL (L := [_]) rfl Tryz.underlying255 el_U32 rfl rfl hF (fun _ h => h) (SlA.own (n := 1) (xs := [.int .u32 (getV bs (at1 : Int) (w1 : Int) : Int)]) 0 rfl rfl (Nat.le_refl 1) (by omega)) (fun u hu => by cases List.mem_singleton.1 hu; rfl) (by omega) (by omega)) ?_
  rintro ov2 _ ⟨H', hF', rfl⟩
  refine Qa rfl rfl (Qc rfl rfl rfl) ?_
  refine Qa rfl rfl (Qc rfl rfl rfl) ?_
  refine Qa rfl rfl (Zb rfl rfl rfl rfl (fun _ => ⟨by omega, by omega⟩)) ?_
  refine Qa rfl rfl (Qd rfl rfl rfl) ?_
  refine Qa rfl rfl (Qd rfl rfl rfl) ?_
  refine Qf ?_
  refine Qo ?_
  refine Qb (Qg ?_)
  refine Qa rfl rfl (Zb rfl rfl rfl rfl (fun _ => ⟨by omega, by omega⟩)) ?_
  refine Qa rfl rfl (Qc rfl rfl rfl) ?_
  refine Qf ?_
  exact TX_round ⟨(i + 1, ov2, H'), hi', by rw [← htk] at hF'; exact hF'⟩ (by show ws.length - (i + 1) < ws.length - i; omega) ⟨rfl, rfl, slotI rfl (by show (at1 : Int) + (w1 : Int) = (tot (ws.take (i + 1)) : Int); omega), rfl, rfl, rfl, trivial⟩ (fun _ h => h.tail)
 ·
  refine Zd ?_
  refine Qi (Qi ?_)
  refine Qp ?_
  refine Qb (Qe (Qg ?_))
  refine Qa rfl rfl (Qc rfl rfl rfl) ?_
  refine Qa rfl rfl (Qd rfl rfl rfl) ?_
  refine Qf (Qb ?_)
  refine Qu ?_
  obtain rfl : i = ws.length := by omega
  rw [List.take_of_length_le (by rw [decN_len]; exact Nat.le_refl _)] at hF
  exact Qs (.inl rfl) (res1 rfl rfl) ⟨_, ⟨H, hF, rfl⟩, fun _ h => h⟩
end Go.Proofs.YtjdaglmkljbfkaaGreatDoor
namespace Go.Proofs.YtjdaglmkljbfkaaGreatDoor
open Go Go.Gx Go.RowKit
set_option maxRecDepth 100000
theorem errRP_bad {L : Lay} {rs : List (List Nat)} (h : errRP L rs ≠ 0) : outRP L rs = [] := by unfold outRP; rw [if_neg h]
theorem fragNoneRB {L : Lay} {rs : List (List Nat)} {e : Int} (h : errRP L rs = e) (h0 : e ≠ 0) : Frag 5 1 (.slice none 0 0) (outRP L rs).length (byV (outRP L rs)) [] := by
 rw [errRP_bad (by rw [h]; exact h0)]
 exact Frag.nil _ _
theorem errCR_ok {L : Lay} (h : errCR L = 0) : okB L = true ∧ L.ty ≤ 5 := by
 unfold errCR at h
 split at h
 · assumption
 · exact absurd h (by decide)
/-- the bits when k numbers are put -/
def eR (L : Lay) (r : List Nat) (k : Nat) : List Bool := enc ((wR L).take k) (r.take k)
theorem eR_step {L : Lay} {r : List Nat} {k x : Nat} (hr : r.length = 7) (hx : r[k]? = some x) : eR L r (k + 1) = eR L r k ++ bitsN (wdR L k) x := by
 have hk : k < 7 := by rw [← hr]; exact (List.getElem?_eq_some_iff.1 hx).1
 unfold eR
 rw [take_snocX (wR_at hk), take_snocX hx, enc_appendX (by rw [List.length_take, List.length_take, wR_len, hr])]
 simp [enc]
theorem eR_all {L : Lay} {r : List Nat} (hr : r.length = 7) : eR L r 7 = encR L r := by
 unfold eR encR
 rw [List.take_of_length_le (by rw [wR_len]; exact Nat.le_refl _), List.take_of_length_le (by omega)]
theorem eR_len {L : Lay} (h : okB L = true) {r : List Nat} (hr : r.length = 7) (k : Nat) : (eR L r k).length ≤ 136 := by
 have h1 := (szR_bd h).2.2.1
 have h2 : tot ((wR L).take k) ≤ tot (wR L) := tot_takeR _ _
 unfold eR
 rw [enc_len (by rw [List.length_take, List.length_take, wR_len, hr])]
 omega
theorem fitR_not {L : Lay} {r : List Nat} {k x : Nat} (hr : r.length = 7) (hx : r[k]? = some x) (h : ¬ x < 2 ^ wdR L k) : fitR L r = false := by
 have hk : k < 7 := by rw [← hr]; exact (List.getElem?_eq_some_iff.1 hx).1
 cases hf : fitR L r with
 | false => rfl
 | true => exact absurd (fitB_atX hf (wR_at hk) hx) h
theorem fitR_all : ∀ {ws : Ws} {xs : List Nat}, (∀ (k w m x : Nat), ws[k]? = some (w, m) → xs[k]? = some x → x < 2 ^ w) → fitB ws xs = true
 | [], _, _ => by unfold fitB; rfl
 | _ :: _, [], _ => by unfold fitB; rfl
 | (w, m) :: ws, x :: xs, h => by
  rw [fitB, fitR_all fun k w m x h1 h2 => h (k + 1) w m x h1 h2]
  simp [h 0 w m x rfl rfl]
theorem fld_len (L : Lay) (ps : List Nat) (k : Nat) : (fld L ps k).length = 3 := rfl
theorem fldsC_part (L : Lay) (ps : List Nat) {n k : Nat} (h : k < n) : k * 3 + 3 ≤ (fldsC L ps n).length ∧ ((fldsC L ps n).drop (k * 3)).take 3 = fld L ps k := by
 refine ⟨by rw [fldsC_len]; omega, ?_⟩
 apply List.ext_getElem?
 intro j
 rw [List.getElem?_take]
 by_cases hj : j < 3
 · rw [if_pos hj, List.getElem?_drop, fldsC_at L ps h hj]
 · rw [if_neg hj, List.getElem?_eq_none (by rw [fld_len]; omega)]
set_option maxHeartbeats 2000000 in
theorem rput0_spec (w0 : Base) (η : Heap) (hG : Sets w0) (L : Lay) (sv : Value) (rs : List (List Nat)) (hs : SlA (St w0 η) sv 7 rs.length (flatR rs)) (hr : ∀ r ∈ rs, RcF r) (hn : rs.length ≤ 100000000) :
    CallsT Tryz.prog 130 [L.val, sv] (St w0 η) fun v A' => ∃ bv H, v = .tuple #[bv, .int .i64 (errRP L rs)] ∧ Frag 5 1 bv (outRP L rs).length (byV (outRP L rs)) H ∧ A' = St w0 (H ++ η) := by
  obtain ⟨hfl, ad, cap, sb, so, rfl, hcap, had, hrd⟩ := hs.some
  refine CallsT.body Tryz.func130 rfl rfl ?_
  simp only [Tryz.ntmps130, slotsOf, Nat.reduceAdd]
  refine Qe (Qg ?_)
  refine TL_e rfl rfl rfl (rfl) (ET_box rfl rfl) ?_
  rintro _ _ ⟨b2, rfl, rfl⟩
  refine Qa rfl rfl (Qd rfl rfl rfl) ?_
  refine Qa rfl rfl (Qd rfl rfl rfl) ?_
  refine Qf (Qb (Qe (Qe ?_)))
  refine TC_A (St w0 ((b2, 27, L.cells) :: η)) (fun _ h => h) ?_
  refine Qg ?_
  refine Qa rfl rfl (Ql 0 rfl rfl Tryz.underlying27 rfl rfl rfl KF.sz_27) ?_
  refine TL_cq rfl rfl rfl rfl KF.cal_137 rfl (fun _ => rcheck0_spec w0 _ hG L) ?_
  refine Qa rfl rfl (Qd rfl rfl rfl) ?_
  refine Qf (Qb (Qe (Qg ?_)))
  refine Qa rfl rfl (Qc rfl rfl rfl) ?_
  refine Qa rfl rfl (QT_neq rfl rfl rfl rfl) ?_
  refine Qf (Qb ?_)
  refine Qm rfl (fun h18 => ?_) (fun h18 => ?_)
  ·
    refine Qe (Qg ?_)
    refine Qa rfl rfl (Qc rfl rfl rfl) ?_
    refine Qa rfl rfl (Qd rfl rfl rfl) ?_
    refine Qa rfl rfl (Qd rfl rfl rfl) ?_
    refine Qf (Qb ?_)
    refine Qu ?_
    refine Qn ?_
    have hne : ¬ (okB L = true ∧ L.ty ≤ 5) := fun hc => h18 (by unfold errCR; rw [if_pos hc])
    have eP : errRP L rs = 4 := by unfold errRP; rw [if_neg hne]
    have eC : errCR L = 4 := by unfold errCR; rw [if_neg hne]
    exact Qs (.inl rfl) (res2 rfl rfl rfl) ⟨_, ⟨_, [], by rw [eP, eC], fragNoneRB eP (by decide), rfl⟩, fun _ h => h.tail⟩
  ·
    refine Qt (Qb (Qe ?_))
    have hc := errCR_ok (Classical.not_not.1 h18)
    refine Qg ?_
    refine Qa rfl rfl (Ql 0 rfl rfl Tryz.underlying27 rfl rfl rfl KF.sz_27) ?_
    refine TL_e rfl rfl rfl (rfl) (ET_call rfl KF.cal_138 rfl (fields_spec w0 _ L hc.1)) ?_
    rintro fv _ ⟨ps, Hf, hps, hFf, rfl⟩
    refine Qa rfl rfl (Qd rfl rfl rfl) ?_
    refine Qf (Qb (Qe ?_))
    obtain ⟨_, fad, fcap, fb, fo, rfl, hfcap, hfad, hfrd⟩ := (hFf.sla (w0 := w0) (η := [])).some
    obtain rfl := hfad (by decide)
    generalize hE : Hf ++ (psHeap ps 0 ++ ((b2, 27, L.cells) :: η)) = E
    have hEf : ∀ {X : Heap}, (∀ p : Blk → Bool, E.countP p ≤ X.countP p) → Rd (St w0 X) fb fo (fldsC L ps 7) := fun h => hfrd.mono fun w hw => hw.cnt fun p => by
      have := h p
      rw [← hE] at this
      simp only [List.countP_append, List.countP_cons, List.countP_nil] at this ⊢
      omega
    have hEp : ∀ {X : Heap}, (∀ p : Blk → Bool, E.countP p ≤ X.countP p) → PsOk (St w0 X) ps := fun {X} h => psOk_of hps fun p => by
      have := h p
      rw [← hE] at this
      simp only [List.countP_append, List.countP_cons] at this
      omega
    have hEη : ∀ {X : Heap} {w : World}, (∀ p : Blk → Bool, E.countP p ≤ X.countP p) → St w0 X w → St w0 η w := fun {X w} h hw => hw.cnt fun p => by
      have := h p
      rw [← hE] at this
      simp only [List.countP_append, List.countP_cons] at this
      omega
    refine Qg ?_
    refine Qa rfl rfl (Qd rfl rfl rfl) ?_
    refine Qf (Qb (Qe (Qe (Qg ?_))))
    refine Qa rfl rfl (Qc rfl rfl rfl) ?_
    refine Qa rfl rfl (Za rfl rfl Tryz.underlying31 rfl) ?_
    refine Qa rfl rfl (Qc rfl rfl rfl) ?_
    refine Qf (Qb (Qr ?_))
    refine TC_loop (γ := { t : Nat × Value × Heap // t.1 ≤ rs.length ∧ Frag 5 1 t.2.1 (bytesR L (rs.take t.1)).length (byV (bytesR L (rs.take t.1))) t.2.2 ∧ (rs.take t.1).all (fitR L) = true }) (fun u => [(7, true, .slice (some ⟨fb, fo, none⟩) 7 fcap), (8, true, u.1.2.1), (22, true, .slice ad rs.length cap), (23, true, .int .i64 (rs.length : Int)), (24, true, .int .i64 (u.1.1 : Int))]) (fun u => St w0 (u.1.2.2 ++ E)) (fun u => rs.length - u.1.1) ⟨(0, .slice none 0 0, []), Nat.zero_le _, Frag.nil _ _, rfl⟩ ⟨rfl, rfl, rfl, rfl, rfl, trivial⟩ (fun _ h => h) ?_
    rintro ⟨⟨i, bv, H⟩, hin, hF, hfit⟩
    dsimp only at hin hF hfit ⊢
    refine Qe (Qg ?_)
    refine Qa rfl rfl (QT_lss rfl rfl rfl rfl) ?_
    refine Qf (Qb (Qe ?_))
    refine Qm rfl (fun h25 => ?_) (fun h25 => ?_)
    ·
      have hi' : i < rs.length := by omega
      obtain ⟨r, hri⟩ : ∃ r, rs[i]? = some r := ⟨_, List.getElem?_eq_getElem hi'⟩
      have hrF := hr r (List.mem_of_getElem? hri)
      obtain ⟨hat1, hat2⟩ := flatR_at hr hri
      have htk := take_snocX hri
      have hrl : (rvV r).length = 7 := rvV_len hrF.len
      have hrz : Sz Tryz.prog 77 (rvV r).length := by rw [hrl]; exact KF.sz_77
      have hri2 := rvV_ints hrF
      have hbl := bytesR_len (L := L) (rs := rs.take i) fun z hz => hr z (List.mem_of_mem_take hz)
      have hsz17 := (szR_bd hc.1).2.1
      have hbl2 : (bytesR L (rs.take i)).length ≤ 17 * rs.length := by
        rw [hbl, List.length_take, Nat.mul_comm]
        exact Nat.mul_le_mul hsz17 (by omega)
      have hpl : (packR L r).length ≤ 17 := by rw [packR_len hrF]; exact hsz17
      refine Qt (Qb (Qe (Qr (Qe (Qg ?_)))))
      refine Qa rfl rfl (QT_indexG i rfl rfl Tryz.underlying31 KF.sz_77 rfl rfl rfl (fun _ => hi') (fun _ => had (by omega))) ?_
      refine Qa rfl rfl (Qy (out := rvV r) (i * 7) rfl rfl Tryz.underlying77 rfl KF.sz_77 (hrd.mono fun w h => hEη (fun p => by simp only [List.countP_append]; omega) h) rfl (fun _ => hat1) (fun _ => hat2)) ?_
      refine TL_e rfl rfl rfl (rfl) (ET_alloc rfl KF.zero_77) ?_
      rintro _ _ ⟨b10, rfl, rfl⟩
      refine TL_e0 rfl rfl (rfl) (ET_storeW (vs := rvV r) 0 rfl rfl rfl hrz rfl (List.all_eq_true.2 hri2.oneCell) (by rw [hrl]; rfl)) ?_
      rintro _ _ ⟨rfl, rfl⟩
      refine Qf (Qb (Qe (Qg ?_)))
      refine TL_e rfl rfl rfl (rfl) (ET_call rfl KF.cal_141 rfl (newRowS w0 _)) ?_
      rintro _ _ ⟨rb, K0, rfl, hK0, rfl⟩
      refine Qa rfl rfl (Qd rfl rfl rfl) ?_
      refine Qf (Qb (Qe (Qe (Qg ?_))))
      refine Qa rfl rfl (Qc rfl rfl rfl) ?_
      refine Qa rfl rfl (Za rfl rfl Tryz.underlying246 rfl) ?_
      refine Qa rfl rfl (Qc rfl rfl rfl) ?_
      refine Qf (Qb (Qr ?_))
      refine TC_loop (γ := { t : Nat × Heap // t.1 ≤ 7 ∧ (∀ j x, j < t.1 → r[j]? = some x → x < 2 ^ wdR L j) ∧ RowAt rb (eR L r t.1) t.2 }) (fun u => [(7, true, .slice (some ⟨fb, fo, none⟩) 7 fcap), (8, true, bv), (10, true, .pointer (some ⟨b10, 0, none⟩)), (11, true, .pointer (some ⟨rb, 0, none⟩)), (22, true, .slice ad rs.length cap), (23, true, .int .i64 (rs.length : Int)), (24, true, .int .i64 (i : Int)), (29, true, .slice (some ⟨fb, fo, none⟩) 7 fcap), (30, true, .int .i64 7), (31, true, .int .i64 (u.1.1 : Int))]) (fun u => St w0 (u.1.2 ++ ((b10, 77, rvV r) :: (H ++ E)))) (fun u => 7 - u.1.1) ⟨(0, K0), by show 0 ≤ 7; decide, fun j x h => absurd h (Nat.not_lt_zero _), hK0⟩ ⟨rfl, rfl, rfl, rfl, rfl, rfl, rfl, rfl, rfl, rfl, trivial⟩ (fun _ h => h) ?_
      rintro ⟨⟨k, K⟩, hk7, hfits, hK⟩
      dsimp only at hk7 hfits hK ⊢
      refine Qe (Qg ?_)
      refine Qa rfl rfl (QT_lss rfl rfl rfl rfl) ?_
      refine Qf (Qb (Qe ?_))
      refine Qm rfl (fun h32 => ?_) (fun h32 => ?_)
      ·
        have hk : k < 7 := by omega
        obtain ⟨x, hx⟩ := get7 hrF.len hk
        obtain ⟨hp1, hp2⟩ := fldsC_part L ps (n := 7) hk
        have hxl := Nat.lt_of_lt_of_le (hrF.lt hx) (rkM_le k)
        have hwl := wdR_le hc.1 k
        have hel := eR_len hc.1 hrF.len k
        have hfz : Sz Tryz.prog 251 (fld L ps k).length := KF.sz_251
        have hstep := eR_step (L := L) hrF.len hx
        refine Qt (Qb (Qe (Qr (Qe (Qg ?_)))))
        refine Qa rfl rfl (QT_indexG k rfl rfl Tryz.underlying246 KF.sz_251 rfl rfl rfl (fun _ => hk) (fun _ => rfl)) ?_
        refine Qa rfl rfl (Qy (out := fld L ps k) (k * 3) rfl rfl Tryz.underlying251 rfl KF.sz_251 (hEf fun p => by simp only [List.countP_append, List.countP_cons]; omega) rfl (fun _ => hp1) (fun _ => hp2)) ?_
        refine TL_e rfl rfl rfl (rfl) (ET_alloc rfl KF.zero_251) ?_
        rintro _ _ ⟨b13, rfl, rfl⟩
        refine TL_e0 rfl rfl (rfl) (ET_storeW (vs := fld L ps k) 0 rfl rfl rfl hfz rfl (List.all_eq_true.2 (fld_one L ps k)) rfl) ?_
        rintro _ _ ⟨rfl, rfl⟩
        refine Qf (Qb (Qe ?_))
        refine TC_A (St w0 ((b13, 251, fld L ps k) :: (K ++ ((b10, 77, rvV r) :: (H ++ E))))) (fun _ h => h) ?_
        refine TC_draw [(0, 0), (1, 0), (2, 0), (4, 0), (5, 0), (3, 1), (6, 1), (7, 0)] KF.mixed (by kernel_rfl) (St.calm _ _) ?_
        refine Qk rfl rfl rfl (fun _ => Qc rfl rfl rfl) ?_
        refine Qk rfl rfl rfl (fun _ => Qh rfl rfl KF.fld_251_1 rfl) ?_
        refine Qz rfl rfl rfl (Qj (v := .func (.func (gF k)) #[] (capF ps k)) 0 rfl rfl Tryz.underlying248 rfl rfl rfl (fun _ => rfl)) ?_
        refine Qk rfl rfl rfl (fun _ => Qh rfl rfl KF.fld_251_0 rfl) ?_
        refine Qz rfl rfl rfl (Qj (v := .int .i64 (wdR L k : Int)) 0 rfl rfl Tryz.underlying3 rfl rfl rfl (fun _ => rfl)) ?_
        refine TV_gq rfl rfl rfl rfl (fun _ => Goes.value rfl rfl (gF_ok k) rfl) (fun _ => getter_spec w0 _ ps k b10 r x hk hrF hx ((Rd.own (w0 := w0) (η := [(b10, 77, rvV r)]) 0 rfl).mono (fun w h => h.cnt fun p => by simp only [List.countP_append, List.countP_cons, List.countP_nil]; omega)) (hEp fun p => by simp only [List.countP_append, List.countP_cons]; omega)) (.keep (by kernel_rfl) rfl (by first | exact Qj (v := .int .i64 (wdR L k : Int)) 0 rfl rfl Tryz.underlying3 rfl rfl rfl (fun _ => rfl)) (.drop (by kernel_rfl) (.nil))) ?_
        refine TV_e rfl rfl rfl rfl (rfl) (ET_call rfl KF.cal_142 rfl (RowAt.putX [(b13, 251, fld L ps k)] _ hK hxl hwl (by omega))) ?_
        rintro _ _ ⟨K', rfl, hK', rfl⟩
        refine ⟨_, .drop (by kernel_rfl) (.nil), ?_⟩
        refine Qk rfl rfl rfl (fun _ => Qd rfl rfl rfl) ?_
        refine TV_end (Qb (Qe (Qg ?_)))
        refine Qa rfl rfl (Qc rfl rfl rfl) ?_
        refine Qa rfl rfl (QT_neq rfl rfl rfl rfl) ?_
        refine Qf (Qb ?_)
        refine Qm rfl (fun h43 => ?_) (fun h43 => ?_)
        ·
          have hnf : ¬ x < 2 ^ wdR L k := fun hlt => h43 (putE_zero hwl hlt (by omega))
          have hbad := fitR_not hrF.len hx hnf
          have e1 : putE (eR L r k).length x (wdR L k : Int) = 1 := putE_one hnf
          have eP : errRP L rs = 1 := by
            unfold errRP
            rw [if_pos hc, if_neg]
            intro ha
            have := List.all_eq_true.1 ha r (List.mem_of_getElem? hri)
            rw [hbad] at this
            exact absurd this (by decide)
          rw [e1]
          refine Qe (Qg ?_)
          refine Qa rfl rfl (Qc rfl rfl rfl) ?_
          refine Qa rfl rfl (Qd rfl rfl rfl) ?_
          refine Qa rfl rfl (Qd rfl rfl rfl) ?_
          refine Qf (Qb ?_)
          refine Qu ?_
          refine Zc ?_
          refine Qn ?_
          refine Qn ?_
          refine Zc ?_
          refine Qn ?_
          refine Zc ?_
          refine Qn ?_
          refine Qn ?_
          refine Zc ?_
          refine Qn ?_
          exact Qs (.inl rfl) (res2 rfl rfl rfl) ⟨_, ⟨_, [], by rw [eP], fragNoneRB eP (by decide), rfl⟩, fun w h => hEη (X := (b13, 251, fld L ps k) :: (K' ++ ((b10, 77, rvV r) :: (H ++ E)))) (fun p => by simp only [List.countP_append, List.countP_cons]; omega) h⟩
        ·
          have hlt : x < 2 ^ wdR L k := by
            refine Classical.byContradiction fun hnf => ?_
            rw [putE_one hnf] at h43
            exact h43 (by decide)
          rw [putL_okX hwl hlt (by omega), ← hstep] at hK'
          refine Qt ?_
          refine Qo ?_
          refine Qb (Qg ?_)
          refine Qa rfl rfl (Zb rfl rfl rfl rfl (fun _ => ⟨by omega, by omega⟩)) ?_
          refine Qa rfl rfl (Qc rfl rfl rfl) ?_
          refine Qf ?_
          refine TX_round ⟨(k + 1, K'), by show k + 1 ≤ 7; omega, fun j y hj hy => ?_, hK'⟩ (by show 7 - (k + 1) < 7 - k; omega) ⟨rfl, rfl, rfl, rfl, rfl, rfl, rfl, rfl, rfl, rfl, trivial⟩ (fun _ h => h.tail)
          by_cases e : j = k
          · subst e; rw [hx] at hy; cases hy; exact hlt
          · exact hfits j y (by have : j < k + 1 := hj; omega) hy
      ·
        refine Zd ?_
        refine Qi (Qi ?_)
        refine Qp ?_
        refine Qb ?_
        obtain rfl : k = 7 := by omega
        have hok1 : fitR L r = true := fitR_all fun j w m y h1 h2 => by
          have hj : j < 7 := by rw [← hrF.len]; exact (List.getElem?_eq_some_iff.1 h2).1
          rw [wR_at hj] at h1
          cases h1
          exact hfits j y hj h2
        rw [eR_all hrF.len] at hK
        have hbx := RowAt.bytesX (w0 := w0) [] ((b10, 77, rvV r) :: (H ++ E)) hK (by rw [← eR_all hrF.len]; have := eR_len hc.1 hrF.len 7; omega)
        rw [show packB (encR L r) = packR L r from rfl] at hbx
        refine Qg ?_
        refine Qa rfl rfl (Qc rfl rfl rfl) ?_
        refine Qa rfl rfl (Qc rfl rfl rfl) ?_
        refine TL_e rfl rfl rfl (rfl) (ET_call rfl KF.cal_143 rfl (hbx)) ?_
        rintro nv _ ⟨H2, hF2, rfl⟩
        refine TL_e rfl rfl rfl (rfl) (ET_appendL (η := E) (L := H2) rfl Tryz.underlying28 el_Byte rfl rfl hF (fun w h => h.cnt fun p => by simp only [List.countP_append, List.countP_cons, List.countP_nil]; omega) (hF2.within fun p => by simp only [List.countP_append]; omega) (byV_ints (packB_lt _)).oneCell (by omega) (by omega)) ?_
        rintro bv2 _ ⟨H', hF', rfl⟩
        refine Qa rfl rfl (Qd rfl rfl rfl) ?_
        refine Qf ?_
        refine Qo ?_
        refine Qb (Qg ?_)
        refine Qa rfl rfl (Zb rfl rfl rfl rfl (fun _ => ⟨by omega, by omega⟩)) ?_
        refine Qa rfl rfl (Qc rfl rfl rfl) ?_
        refine Qf ?_
        refine TX_round ⟨(i + 1, bv2, H'), hi', ?_, ?_⟩ (by show rs.length - (i + 1) < rs.length - i; omega) ⟨rfl, rfl, rfl, rfl, rfl, trivial⟩ (fun w h => h.app_right)
        · have e : bytesR L (rs.take (i + 1)) = bytesR L (rs.take i) ++ packR L r := by rw [htk, bytesR_append]; simp [bytesR]
          show Frag _ 1 _ (bytesR L (rs.take (i + 1))).length (byV (bytesR L (rs.take (i + 1)))) H'
          rw [e, List.length_append, byV_append]
          exact hF'
        · show (rs.take (i + 1)).all (fitR L) = true
          rw [htk, List.all_append, hfit]
          simp [hok1]
    ·
      refine Zd ?_
      refine Qi (Qi ?_)
      refine Qp ?_
      refine Qb (Qe (Qe ?_))
      obtain rfl : i = rs.length := by omega
      rw [List.take_of_length_le (Nat.le_refl _)] at hF hfit
      obtain ⟨bad, bcap, rfl, _, _⟩ := hF.slice
      refine Qg ?_
      refine Qa rfl rfl (Qc rfl rfl rfl) ?_
      refine Qa rfl rfl (Za rfl rfl Tryz.underlying28 rfl) ?_
      refine Qa rfl rfl (QT_gtr rfl rfl rfl rfl) ?_
      refine Qf (Qb ?_)
      refine Qm rfl (fun h53 => ?_) (fun h53 => ?_)
      ·
        refine Qe (Qg ?_)
        refine Qa rfl rfl (Qd rfl rfl rfl) ?_
        refine Qa rfl rfl (Qd rfl rfl rfl) ?_
        refine Qf (Qb ?_)
        refine Qu ?_
        refine Qn ?_
        have eP : errRP L rs = 3 := by unfold errRP; rw [if_pos hc, if_pos hfit, if_pos (by omega)]
        exact Qs (.inl rfl) (res2 rfl rfl rfl) ⟨_, ⟨_, [], by rw [eP], fragNoneRB eP (by decide), rfl⟩, fun w h => hEη (X := H ++ E) (fun p => by simp only [List.countP_append]; omega) h⟩
      ·
        refine Qt (Qb (Qe (Qg ?_)))
        refine Qa rfl rfl (Qc rfl rfl rfl) ?_
        refine TL_e rfl rfl rfl (rfl) (ET_call rfl KF.cal_144 rfl (clipB_spec w0 E H _ _ _ hF)) ?_
        rintro cv _ ⟨hF2, rfl⟩
        refine Qa rfl rfl (Qd rfl rfl rfl) ?_
        refine Qa rfl rfl (Qd rfl rfl rfl) ?_
        refine Qf (Qb ?_)
        refine Qu ?_
        have eP : errRP L rs = 0 := by unfold errRP; rw [if_pos hc, if_pos hfit, if_neg (by omega)]
        refine Qs (.inl rfl) (res2 rfl rfl rfl) ⟨_, ⟨cv, H, by rw [eP], by unfold outRP; rw [if_pos eP]; exact hF2, rfl⟩, fun w h => ?_⟩
        rw [← hE] at h
        exact h.cnt fun p => by simp only [List.countP_append, List.countP_cons]; omega
end Go.Proofs.YtjdaglmkljbfkaaGreatDoor
namespace Go.Gx
open Go Go.RowKit
section
variable {P : Program} {n : Nat} {ops : Array Oper} {o : Oper} {σ : Slots} {A : World → Prop} {g : Bool} {x y z u : Operand} {c1 c2 c3 c4 : Bool} {t : TypeId} {k : IntKind} {p : Int}
/-- s[l:h:m] -/
theorem QT_slcLHM {e size len cap : Nat} {ad : Option Addr} {q r : Int} {k2 k3 : IntKind} (l h m : Nat) (hg : gdc ops σ o = some g) (hop : o.op = .slice t x (some y) (some z) (some u)) (hu : P.underlying t = some (.slice e)) (hm : Sz P e size)
    (hx : ev σ x = some (c1, .slice ad len cap)) (hy : ev σ y = some (c2, .int k p)) (hz : ev σ z = some (c3, .int k2 q)) (hv : ev σ u = some (c4, .int k3 r)) (hp : p = (l : Int)) (hq : q = (h : Int)) (hr : r = (m : Int)) (hl : g = true → l ≤ h ∧ h ≤ m ∧ m ≤ cap)
    (hc : g = true → c1 = true ∧ c2 = true ∧ c3 = true ∧ c4 = true := by first | exact fun _ => ⟨rfl, rfl, rfl, rfl⟩ | (intro h; first | grind | simp_all)) : QT P n ops o σ A g (.slice (if m = l then ad else ad.map (·.add (l * size))) (h - l) (m - l)) :=
  QT.mk hg fun a w hf _ hgt => by
    have e1 := fun code => run_bound (P := P) (w := w) (k := k) (code := code) hp (hl hgt).1
    have e2 := fun code => run_bound (P := P) (w := w) (k := k2) (code := code) hq (hl hgt).2.1
    have e3 := fun code => run_bound (P := P) (w := w) (k := k3) (code := code) hr (hl hgt).2.2
    simp [execOp, hop, hf.eval hx (hc hgt).1, hf.eval hy (hc hgt).2.1, hf.eval hz (hc hgt).2.2.1, hf.eval hv (hc hgt).2.2.2, Instr.sliceAt, Instr.slice, Instr.sliceBounds, run_underlying hu, e1, e2, e3, run_sizeOf hm]
end
section
variable {P : Program}
/-- what yield does at X -/
def Yields (P : Program) (l N : Nat) (cv : Nat → Value) (X : Nat → World → Prop) : Prop :=
 ∀ k W, k < N → X k W → ∃ fn tmps assign body, (Instr.yield l #[cv k]).run P W = .ok (.round l fn tmps assign body) W ∧ ∀ m', RoundIn (FR none) m' P l fn tmps assign body W fun e W' => e = .returned (.bool true) ∧ X (k + 1) W'
theorem iterOk_of {gf : FuncId} {fn : Func} {c : Code} {lb : List Value} {N l : Nat} {cv : Nat → Value} {X : Nat → World → Prop} (hf : P.funcs[gf]? = some fn) (hb : fn.body = some c) (hn : Nat.ble (lb.length + 1) fn.ntmps = true)
    (h : Yields P l N cv X → ∀ m, TCI P fn.ntmps none m c (bodyPost P fn fun e w' => ∃ v A', e = .returned v ∧ A' = X N ∧ A' w') (slotsOf (.func (.yield l) #[] #[] :: lb) 0) (X 0)) : IterOk P gf lb.toArray N cv l X := by
  intro w h0 hy m
  have hA : (#[.func (.yield l) #[] #[]] ++ lb.toArray : Array Value) = (.func (.yield l) #[] #[] :: lb).toArray := by apply Array.ext'; simp
  rw [hA]
  refine callsIn_of_wp hf hb trivial ?_
  refine wpIn_mono (Q := bodyPost P fn fun e w' => ∃ v A', e = .returned v ∧ A' = X N ∧ A' w') (h hy m (fun a w hx => by obtain ⟨v, A', he, _⟩ := hx; exact Ending.noConfusion he) _ w ⟨?_, rfl, fun t c v h => ?_⟩ h0) fun e a1 w1 h1 => ?_
  rotate_left 2
  ·
    cases e with
    | normal => obtain ⟨hd, v, hr, v', A', he, rfl, hX⟩ := h1; exact ⟨hd, v, hr, ⟨v', he⟩, hX⟩
    | ret => obtain ⟨hd, v, hr, v', A', he, rfl, hX⟩ := h1; exact ⟨hd, v, hr, ⟨v', he⟩, hX⟩
    | panic ch => obtain ⟨v', A', he, _⟩ := h1.2; exact Ending.noConfusion he
    | outgrown => obtain ⟨v', A', he, _⟩ := h1; exact Ending.noConfusion he
    | exit id => exact h1
    | goto id => exact h1
  · have := Nat.le_of_ble_eq_true hn
    simp; omega
  · obtain ⟨rfl, _, h3⟩ := look_slotsOf _ 0 t c v h
    simp only [Nat.sub_zero] at h3
    have hlt := (List.getElem?_eq_some_iff.1 h3).1
    simp only [Array.getD_eq_getD_getElem?, cond_true]
    rw [Array.getElem?_append_left (by simpa using hlt)]
    simp [h3]
end
end Go.Gx
namespace Go.Proofs.YtjdaglmkljbfkaaGreatDoor
open Go Go.Gx Go.RowKit
set_option maxRecDepth 100000
/-- the k-th part of a slice -/
def chkV (ad : Option Addr) (sz k : Nat) : Value := .slice (if k * sz + sz = k * sz then ad else ad.map (·.add (k * sz * 1))) (k * sz + sz - k * sz) (k * sz + sz - k * sz)
theorem chkV_sla {A : World → Prop} {ad : Option Addr} {n cap sz k : Nat} {cs : List Value} (h : SlA A (.slice ad n cap) 1 n cs) (hk : k * sz + sz ≤ n) (h0 : 0 < sz) : SlA A (chkV ad sz k) 1 sz ((cs.drop (k * sz)).take sz) := by
  unfold chkV
  obtain ⟨hl, ad', cap', hv, hc, hr⟩ := h
  obtain ⟨rfl, _, rfl⟩ := Value.slice.inj hv
  rw [if_neg (by omega), show k * sz + sz - k * sz = sz by omega]
  refine ⟨by rw [List.length_take, List.length_drop]; omega, _, _, rfl, ⟨Nat.le_refl _, by omega⟩, .inr ?_⟩
  obtain ⟨b, off, rfl, hrd⟩ := hr.resolve_left (by omega)
  refine ⟨b, off + k * sz, by simp [add_mk], fun w hw j v hv => ?_⟩
  rw [List.getElem?_take] at hv
  split at hv
  · rw [Nat.add_assoc]
    exact hrd w hw _ v (by rw [← List.getElem?_drop]; exact hv)
  · cases hv
set_option maxHeartbeats 1000000 in
theorem chunk_iter (X : Nat → World → Prop) (hcalm : ∀ k, Go.Gx.Calm (X k)) (b1 b2 n cap sz N l : Nat) (ad : Option Addr) (hcap : n ≤ cap ∧ cap ≤ 9223372036854775807) (hz : 0 < sz) (hN : N * sz = n) (hnm : n ≤ 1000000) (h1 : ∀ k, Rd (X k) b1 0 [.slice ad n cap]) (h2 : ∀ k, Rd (X k) b2 0 [.int .i64 (sz : Int)]) :
    IterOk Tryz.prog 156 [.pointer (some ⟨b1, 0, none⟩), .pointer (some ⟨b2, 0, none⟩)].toArray N (chkV ad sz) l X := by
  refine iterOk_of Tryz.func156 rfl rfl fun hY m => ?_
  simp only [Tryz.ntmps156, slotsOf, Nat.reduceAdd]
  refine TCI_seq ?_
  refine TCI_regI ?_
  refine TLI_q rfl rfl (Qd rfl rfl rfl) ?_
  refine TLI_nil ?_
  refine TXI_then ?_
  refine TCI_block ?_
  refine TCI_loop (γ := { k : Nat // k ≤ N }) (fun k => [(0, true, .func (.yield l) #[] #[]), (1, true, .pointer (some ⟨b1, 0, none⟩)), (2, true, .pointer (some ⟨b2, 0, none⟩)), (4, true, .int .i64 ((k.1 * sz : Nat) : Int))]) (fun k => X k.1) (fun k => N - k.1) ⟨0, Nat.zero_le _⟩ ⟨rfl, rfl, rfl, slotI rfl (by show (0 : Int) = ((0 * sz : Nat) : Int); omega), trivial⟩ (fun _ h => h) ?_
  rintro ⟨k, hkN⟩
  dsimp only at hkN ⊢
  have hkn : k * sz ≤ n := by rw [← hN]; exact Nat.mul_le_mul_right _ hkN
  refine TCI_seq ?_
  refine TCI_seq ?_
  refine TCI_regI ?_
  refine TLI_q rfl rfl (Qc rfl rfl rfl) ?_
  refine TLI_q rfl rfl (Qw (v := .slice ad n cap) 0 rfl rfl Tryz.underlying28 rfl (h1 k) rfl (fun _ => rfl)) ?_
  refine TLI_q rfl rfl (Za rfl rfl Tryz.underlying28 rfl) ?_
  refine TLI_q rfl rfl (QT_lss rfl rfl rfl rfl) ?_
  refine TLI_nil ?_
  refine TXI_then ?_
  refine TCI_cond_dec rfl (fun h9 => ?_) (fun h9 => ?_)
  ·
    have hk : k < N := by
      refine Classical.byContradiction fun hk => ?_
      have : k = N := by omega
      rw [this] at h9
      omega
    have hks : k * sz + sz ≤ n := by
      have : (k + 1) * sz ≤ N * sz := Nat.mul_le_mul_right _ hk
      rw [Nat.add_mul] at this
      omega
    have hcv : chkV ad sz k = .slice (if k * sz + sz = k * sz then ad else ad.map (·.add (k * sz * 1))) (k * sz + sz - k * sz) (k * sz + sz - k * sz) := rfl
    have hk1 : (k + 1) * sz = k * sz + sz := by rw [Nat.add_mul]; omega
    generalize hcE : k * sz = c at hkn hks hcv hk1 h9 ⊢
    refine TCI_skip ?_
    refine TXI_then ?_
    refine TCI_seq ?_
    refine TCI_block ?_
    refine TCI_seq ?_
    refine TCI_draw [(0, 0), (1, 0), (2, 0), (3, 0), (4, 0), (5, 0), (6, 0)] KF.mixed (by kernel_rfl) (hcalm _) ?_
    refine Qz rfl rfl rfl (Qw (v := .int .i64 (sz : Int)) 0 rfl rfl Tryz.underlying3 rfl (h2 k) rfl (fun _ => rfl)) ?_
    refine Qz rfl rfl rfl (Qw (v := .slice ad n cap) 0 rfl rfl Tryz.underlying28 rfl (h1 k) rfl (fun _ => rfl)) ?_
    refine Qk rfl rfl rfl (fun _ => Qc rfl rfl rfl) ?_
    refine Qk rfl rfl rfl (fun _ => QT_slcL c rfl rfl rfl rfl Tryz.underlying28 KF.sz_5 rfl rfl rfl (fun _ => hkn)) ?_
    refine Qk rfl rfl rfl (fun _ => Za rfl rfl Tryz.underlying28 rfl) ?_
    refine Qk rfl rfl rfl (fun _ => QT_min rfl rfl rfl rfl) ?_
    refine Qk rfl rfl rfl (fun _ => Qd rfl rfl rfl) ?_
    refine TV_end ?_
    refine TXI_then ?_
    refine TCI_seq ?_
    refine TCI_regI ?_
    refine TLI_q rfl rfl (Qc rfl rfl rfl) ?_
    refine TLI_q rfl rfl (Qw (v := .slice ad n cap) 0 rfl rfl Tryz.underlying28 rfl (h1 k) rfl (fun _ => rfl)) ?_
    refine TLI_q rfl rfl (Qc rfl rfl rfl) ?_
    refine TLI_q rfl rfl (Qc rfl rfl rfl) ?_
    refine TLI_q rfl rfl (Qc rfl rfl rfl) ?_
    refine TLI_q rfl rfl (Zb rfl rfl rfl rfl (fun _ => ⟨by omega, by omega⟩)) ?_
    refine TLI_q rfl rfl (Qc rfl rfl rfl) ?_
    refine TLI_q rfl rfl (Qc rfl rfl rfl) ?_
    refine TLI_q rfl rfl (Zb rfl rfl rfl rfl (fun _ => ⟨by omega, by omega⟩)) ?_
    refine TLI_q rfl rfl (QT_slcLHM c (c + sz) (c + sz) rfl rfl Tryz.underlying28 KF.sz_5 rfl rfl rfl rfl rfl (by omega) (by omega) (fun _ => ⟨by omega, by omega, by omega⟩)) ?_
    refine TLI_yield (A' := X (k + 1)) (l := l) rfl rfl rfl rfl rfl rfl (fun W hW => by rw [← hcv]; exact hY k W hk hW) ?_
    refine TLI_q rfl rfl (QT_not rfl rfl rfl) ?_
    refine TLI_nil ?_
    refine TXI_then ?_
    refine TCI_cond rfl (fun h => absurd h (by decide)) (fun _ => ?_)
    refine TCI_skip ?_
    refine Qo ?_
    refine TXI_then ?_
    refine TCI_regI ?_
    refine TLI_q rfl rfl (Qc rfl rfl rfl) ?_
    refine TLI_q rfl rfl (Qw (v := .int .i64 (sz : Int)) 0 rfl rfl Tryz.underlying3 rfl (h2 (k + 1)) rfl (fun _ => rfl)) ?_
    refine TLI_q rfl rfl (Zb rfl rfl rfl rfl (fun _ => ⟨by omega, by omega⟩)) ?_
    refine TLI_q rfl rfl (Qd rfl rfl rfl) ?_
    refine TLI_nil ?_
    exact TX_round ⟨k + 1, hk⟩ (by show N - (k + 1) < N - k; omega) ⟨rfl, rfl, rfl, slotI rfl (by show (c : Int) + (sz : Int) = (((k + 1) * sz : Nat) : Int); omega), trivial⟩ (fun _ h => h)
  ·
    obtain rfl : k = N := by
      refine Classical.byContradiction fun hk => ?_
      have : (k + 1) * sz ≤ N * sz := Nat.mul_le_mul_right _ (by omega)
      rw [Nat.add_mul] at this
      omega
    refine TCI_exit ?_
    refine Qi (Qi ?_)
    refine Qp ?_
    exact Qs (.inr rfl) (res0 rfl) ⟨_, rfl, fun _ h => h⟩
theorem chunk_spec (w0 : Base) (η : Heap) (n cap sz : Nat) (ad : Option Addr) (hz : 0 < sz) :
  CallsT Tryz.prog 139 [.slice ad n cap, .int .i64 (sz : Int)] (St w0 η) fun v A' => ∃ b1 b2, v = .func (.func 156) #[] #[.pointer (some ⟨b1, 0, none⟩), .pointer (some ⟨b2, 0, none⟩)] ∧ A' = St w0 ((b2, 3, [.int .i64 (sz : Int)]) :: (b1, 28, [.slice ad n cap]) :: η) := by
 refine CallsT.body Tryz.func139 rfl rfl ?_
 simp only [Tryz.ntmps139, slotsOf, Nat.reduceAdd]
 refine Qe (Qg ?_)
 refine TL_e rfl rfl rfl (rfl) (ET_box rfl rfl) ?_
 rintro _ _ ⟨b2, rfl, rfl⟩
 refine TL_e rfl rfl rfl (rfl) (ET_box rfl rfl) ?_
 rintro _ _ ⟨b3, rfl, rfl⟩
 refine Qa rfl rfl (Qd rfl rfl rfl) ?_
 refine Qf (Qb (Qe (Qe (Qg ?_))))
 refine Qa rfl rfl (Qj 0 rfl rfl Tryz.underlying3 rfl rfl rfl (fun _ => rfl)) ?_
 refine Qa rfl rfl (QT_lss rfl rfl rfl rfl) ?_
 refine Qf (Qb ?_)
 refine TC_cond rfl (fun h => absurd (h.symm.trans (decide_eq_false (by omega))) (by decide)) (fun _ => ?_)
 refine Qt (Qb (Qe (Qg ?_)))
 refine Qa rfl rfl (QT_makeFunc rfl rfl rfl rfl) ?_
 refine Qa rfl rfl (Qd rfl rfl rfl) ?_
 refine Qf (Qb ?_)
 refine Qu ?_
 exact Qs (.inl rfl) (res1 rfl rfl) ⟨_, ⟨b2, b3, rfl, rfl⟩, fun _ h => h⟩
end Go.Proofs.YtjdaglmkljbfkaaGreatDoor
namespace Go.Proofs.YtjdaglmkljbfkaaGreatDoor
open Go Go.Gx Go.RowKit
set_option maxRecDepth 100000
theorem el_RecR : ElemOk Tryz.prog 77 7 20 (.agg #[.int .u8 0, .int .u32 0, .int .u32 0, .int .u16 0, .int .u16 0, .int .u16 0, .int .u16 0]) := .of KF.sz_77 (by kernel_rfl) (by unfold ZeroOk; kernel_rfl) (by kernel_rfl) (by decide)
theorem el_IntR : ElemOk Tryz.prog 3 1 8 (.int .i64 0) := .of KF.sz_3 (by kernel_rfl) (by unfold ZeroOk; kernel_rfl) (by kernel_rfl) (by decide)
theorem errRG_bad {L : Lay} {bs : List Nat} (h : errRG L bs ≠ 0) : outRG L bs = [] := by unfold outRG; rw [if_neg h]
theorem fragNoneRG {L : Lay} {bs : List Nat} {e : Int} (h : errRG L bs = e) (h0 : e ≠ 0) : Frag 77 7 (.slice none 0 0) (outRG L bs).length (flatR (outRG L bs)) [] := by
 rw [errRG_bad (by rw [h]; exact h0)]
 exact Frag.nil _ _
/-- a record whose first j numbers are set -/
def setRN (v : List Nat) (j : Nat) : List Nat := (List.range 7).map fun p => if p < j then v.getD p 0 % rkM p else 0
theorem setRN_len (v : List Nat) (j : Nat) : (setRN v j).length = 7 := by simp [setRN]
theorem setRN_step {v : List Nat} {j x : Nat} (hj : j < 7) (hx : v[j]? = some x) : (setRN v j).set j (x % rkM j) = setRN v (j + 1) := by
  apply List.ext_getElem?
  intro p
  rw [List.getElem?_set]
  by_cases e : j = p
  · subst e
    rw [if_pos rfl, if_pos (by rw [setRN_len]; exact hj), setRN, List.getElem?_map, List.getElem?_range hj]
    simp [hx]
  · rw [if_neg e, setRN, setRN, List.getElem?_map, List.getElem?_map]
    by_cases hp : p < 7
    · rw [List.getElem?_range hp]
      simp only [Option.map_some]
      congr 1
      by_cases h1 : p < j
      · rw [if_pos h1, if_pos (by omega)]
      · rw [if_neg h1, if_neg (by omega)]
    · rw [List.getElem?_eq_none (by simpa using hp)]
      rfl
theorem setRN_all {L : Lay} {l : List Bool} : setRN (decN (wR L) l) 7 = dcR L l := by
  apply List.ext_getElem?
  intro p
  by_cases hp : p < 7
  · rw [setRN, List.getElem?_map, List.getElem?_range hp, dcR, dec_at (wR_at hp)]
    simp only [Option.map_some]
    rw [if_pos hp]
    have := decN_at (l := l) (wR_at (L := L) hp)
    simp [this]
  · rw [List.getElem?_eq_none (by rw [setRN_len]; omega), List.getElem?_eq_none (by rw [(dcR_rcf L l).len]; omega)]
theorem recsB_snoc (L : Lay) (bs : List Nat) (k : Nat) : recsB L bs (k + 1) = recsB L bs k ++ [recAt L bs k] := by simp [recsB, List.range_succ]
theorem recsB_rcf {L : Lay} {bs : List Nat} {n : Nat} : ∀ r ∈ recsB L bs n, RcF r := by
 intro r hr
 obtain ⟨k, _, rfl⟩ := List.mem_map.1 hr
 exact dcR_rcf _ _
theorem recsB_len (L : Lay) (bs : List Nat) (n : Nat) : (recsB L bs n).length = n := by simp [recsB]
theorem recAt_cut {L : Lay} {bs : List Nat} {k : Nat} : dcR L (byB ((bs.drop (k * szR L)).take (szR L))) = recAt L bs k := by
 unfold recAt dcR
 rw [byB_take, dec_take]
 unfold szR
 omega
theorem wV_snoc {L : Lay} {k : Nat} (hk : k < 7) : wV ((wR L).take (k + 1)) = wV ((wR L).take k) ++ [.int .i64 (wdR L k : Int)] := by
 rw [take_snocX (wR_at hk)]
 simp [wV]
theorem byV_cut (bs : List Nat) (a b : Nat) : byV ((bs.drop a).take b) = ((byV bs).drop a).take b := by simp [byV, List.map_drop, List.map_take]
set_option maxHeartbeats 4000000 in
theorem rget0_spec (w0 : Base) (η : Heap) (hG : Sets w0) (L : Lay) (sv : Value) (bs : List Nat) (hs : SlA (St w0 η) sv 1 bs.length (byV bs)) (hb : ∀ c ∈ bs, c < 256) (hl : bs.length ≤ 100000000) :
    CallsT Tryz.prog 129 [L.val, sv] (St w0 η) fun v A' => ∃ rv H, v = .tuple #[rv, .int .i64 (errRG L bs)] ∧ Frag 77 7 rv (outRG L bs).length (flatR (outRG L bs)) H ∧ A' = St w0 (H ++ η) := by
  obtain ⟨hbl, ad, cap, sb, so, rfl, hcap, had, hrd⟩ := hs.some
  refine CallsT.bodyM Tryz.func129 rfl rfl ?_
  simp only [Tryz.ntmps129, slotsOf, Nat.reduceAdd]
  refine Qe (Qg ?_)
  refine TL_e rfl rfl rfl (rfl) (ET_box rfl rfl) ?_
  rintro _ _ ⟨b2, rfl, rfl⟩
  refine Qa rfl rfl (Qd rfl rfl rfl) ?_
  refine Qa rfl rfl (Qd rfl rfl rfl) ?_
  refine Qf (Qb (Qe ?_))
  refine TC_A (St w0 ((b2, 27, L.cells) :: η)) (fun _ h => h) ?_
  refine Qg ?_
  refine Qa rfl rfl (Ql 0 rfl rfl Tryz.underlying27 rfl rfl rfl KF.sz_27) ?_
  refine TL_cq rfl rfl rfl rfl KF.cal_136 rfl (fun _ => size_spec w0 _ hG L 0 (by decide)) ?_
  refine Qa rfl rfl (Qd rfl rfl rfl) ?_
  refine Qf (Qb (Qe (Qe (Qg ?_))))
  refine Qa rfl rfl (Ql 0 rfl rfl Tryz.underlying27 rfl rfl rfl KF.sz_27) ?_
  refine TL_cq rfl rfl rfl rfl KF.cal_137 rfl (fun _ => rcheck0_spec w0 _ hG L) ?_
  refine Qa rfl rfl (Qd rfl rfl rfl) ?_
  refine Qf (Qb (Qr (Qe (Qg ?_))))
  refine Qa rfl rfl (Qc rfl rfl rfl) ?_
  refine Qa rfl rfl (QT_neq rfl rfl rfl rfl) ?_
  refine Qa rfl rfl (Qd rfl rfl rfl) ?_
  refine Qf (Qb ?_)
  refine Qm rfl (fun h21 => ?_) (fun h21 => ?_)
  ·
    refine Qe (Qg ?_)
    refine Qa rfl rfl (Qc rfl rfl rfl) ?_
    refine Qa rfl rfl (Qd rfl rfl rfl) ?_
    refine Qa rfl rfl (Qd rfl rfl rfl) ?_
    refine Qf (Qb ?_)
    refine Qu ?_
    refine Zc ?_
    refine Qn ?_
    have hne : ¬ (okB L = true ∧ L.ty ≤ 5) := fun hc => h21 (by unfold errCR; rw [if_pos hc])
    have eP : errRG L bs = 4 := by unfold errRG; rw [if_neg hne]
    have eC : errCR L = 4 := by unfold errCR; rw [if_neg hne]
    exact TX_retM (.inl rfl) (res2 rfl rfl rfl) ⟨_, ⟨_, [], by rw [eP, eC], fragNoneRG eP (by decide), rfl⟩, fun _ h => h.tail⟩
  ·
    have hc := errCR_ok (Classical.not_not.1 h21)
    have hsz := sizeR_eq hc.1 (ty45 hc) 0
    have hszb := szR_bd hc.1
    have hsz1 : (szR L : Int) ≠ 0 := by omega
    refine Qe (Qg ?_)
    refine Qa rfl rfl (Qc rfl rfl rfl) ?_
    refine Qa rfl rfl (Za rfl rfl Tryz.underlying28 rfl) ?_
    refine Qa rfl rfl (QT_gtr rfl rfl rfl rfl) ?_
    refine Qa rfl rfl (Qd rfl rfl rfl) ?_
    refine Qf (Qb ?_)
    refine Qm rfl (fun h25 => ?_) (fun h25 => ?_)
    ·
      refine Qe (Qg ?_)
      refine Qa rfl rfl (Qd rfl rfl rfl) ?_
      refine Qa rfl rfl (Qd rfl rfl rfl) ?_
      refine Qf (Qb ?_)
      refine Qu ?_
      refine Zc ?_
      refine Qn ?_
      have eP : errRG L bs = 3 := by unfold errRG; rw [if_pos hc, if_pos (by omega)]
      exact TX_retM (.inl rfl) (res2 rfl rfl rfl) ⟨_, ⟨_, [], by rw [eP], fragNoneRG eP (by decide), rfl⟩, fun _ h => h.tail⟩
    ·
      refine Qe (Qg ?_)
      refine Qa rfl rfl (Qc rfl rfl rfl) ?_
      refine Qa rfl rfl (Za rfl rfl Tryz.underlying28 rfl) ?_
      refine Qa rfl rfl (Qc rfl rfl rfl) ?_
      refine Qa rfl rfl (QT_rem rfl rfl rfl rfl (fun _ => ⟨by omega, by rw [hsz]; omega⟩)) ?_
      refine Qa rfl rfl (QT_neq rfl rfl rfl rfl) ?_
      refine Qa rfl rfl (Qd rfl rfl rfl) ?_
      refine Qf (Qb ?_)
      refine Qm rfl (fun h29 => ?_) (fun h29 => ?_)
      ·
        refine Qe (Qg ?_)
        refine Qa rfl rfl (Qd rfl rfl rfl) ?_
        refine Qa rfl rfl (Qd rfl rfl rfl) ?_
        refine Qf (Qb ?_)
        refine Qu ?_
        refine Zc ?_
        refine Qn ?_
        have eP : errRG L bs = 5 := by
          unfold errRG
          rw [if_pos hc, if_neg (by omega), if_neg]
          intro e
          rw [hsz] at h29
          apply h29
          rw [← Int.natCast_emod, e]
          rfl
        exact TX_retM (.inl rfl) (res2 rfl rfl rfl) ⟨_, ⟨_, [], by rw [eP], fragNoneRG eP (by decide), rfl⟩, fun _ h => h.tail⟩
      ·
        have hmod : bs.length % szR L = 0 := by
          have h := Classical.not_not.1 h29
          rw [hsz, ← Int.natCast_emod] at h
          omega
        have hNs : bs.length / szR L * szR L = bs.length := Nat.div_mul_cancel (Nat.dvd_of_mod_eq_zero hmod)
        have hNl : bs.length / szR L ≤ 65536 := Nat.le_trans (Nat.div_le_self _ _) (by omega)
        have eP : errRG L bs = 0 := by unfold errRG; rw [if_pos hc, if_neg (by omega), if_pos hmod]
        have eO : outRG L bs = recsB L bs (bs.length / szR L) := by unfold outRG; rw [if_pos eP]
        refine Qt ?_
        refine Qo ?_
        refine Qb (Qe (Qg ?_))
        refine Qa rfl rfl (Ql 0 rfl rfl Tryz.underlying27 rfl rfl rfl KF.sz_27) ?_
        refine TL_e rfl rfl rfl (rfl) (ET_call rfl KF.cal_138 rfl (fields_spec w0 _ L hc.1)) ?_
        rintro fv _ ⟨ps, Hf, hps, hFf, rfl⟩
        obtain ⟨_, fad, fcap, fb, fo, rfl, hfcap, hfad, hfrd⟩ := (hFf.sla (w0 := w0) (η := [])).some
        obtain rfl := hfad (by decide)
        refine TL_e rfl rfl rfl (rfl) (ET_alloc rfl KF.zero_246) ?_
        rintro _ _ ⟨b8, rfl, rfl⟩
        refine TL_e0 rfl rfl (rfl) (ET_store 0 rfl rfl rfl rfl KF.sz_246 rfl rfl rfl) ?_
        rintro _ _ ⟨rfl, rfl⟩
        refine Qf (Qb (Qe ?_))
        obtain ⟨E, hE⟩ : ∃ E, E = Hf ++ (psHeap ps 0 ++ ((b2, 27, L.cells) :: η)) := ⟨_, rfl⟩
        refine TC_A (St w0 ((b8, 246, [.slice (some ⟨fb, fo, none⟩) 7 fcap]) :: E)) (fun _ h => by rw [hE]; exact h) ?_
        have hEc : ∀ p : Blk → Bool, E.countP p = Hf.countP p + (psHeap ps 0).countP p + (List.countP p [(b2, 27, L.cells)]) + η.countP p := fun p => by
          rw [hE]; simp only [List.countP_append, List.countP_cons, List.countP_nil]; omega
        have hEf : ∀ {B : Base} {X : Heap}, (∀ p : Blk → Bool, E.countP p ≤ X.countP p) → Rd (St B X) fb fo (fldsC L ps 7) := fun {B X} h => by
          obtain ⟨_, gad, gcap, gb, go, hgv, _, hgad, hgrd⟩ := (hFf.sla (w0 := B) (η := [])).some
          obtain ⟨rfl, rfl⟩ : fb = gb ∧ fo = go := by
            have h1 := hgad (by decide)
            rw [h1] at hgv
            injection hgv with h2
            injection h2 with h3
            injection h3 with h4 h5
            exact ⟨h4, h5⟩
          exact hgrd.mono fun w hw => hw.cnt fun p => by
            have := h p
            rw [hEc] at this
            simp only [List.countP_append, List.countP_nil]
            omega
        have hEp : ∀ {B : Base} {X : Heap}, (∀ p : Blk → Bool, E.countP p ≤ X.countP p) → PsOk (St B X) ps := fun {B X} h => psOk_of hps fun p => by
          have := h p
          rw [hEc] at this
          omega
        have hEη : ∀ {B : Base} {X : Heap} {w : World}, Under w0 B → (∀ p : Blk → Bool, E.countP p ≤ X.countP p) → St B X w → St w0 η w := fun {B X w} hU h hw => (hU.back hw).cnt fun p => by
          have := h p
          rw [hEc] at this
          omega
        refine Qg ?_
        refine TL_e rfl rfl rfl (rfl) (ET_alloc rfl KF.zero_175) ?_
        rintro _ _ ⟨b9, rfl, rfl⟩
        refine Qf (Qb (Qe (Qe (Qg ?_))))
        refine Qa rfl rfl (Qj 1 rfl rfl Tryz.underlying246 rfl rfl rfl (fun _ => rfl)) ?_
        refine Qa rfl rfl (Za rfl rfl Tryz.underlying246 rfl) ?_
        refine Qa rfl rfl (Qc rfl rfl rfl) ?_
        refine Qf (Qb (Qr ?_))
        refine TC_loop (γ := { t : Nat × Value × Heap // t.1 ≤ 7 ∧ Frag 3 1 t.2.1 t.1 (wV ((wR L).take t.1)) t.2.2 }) (fun u => [(1, true, .slice ad bs.length cap), (6, true, .int .i64 (sizeZ L 0)), (8, true, .pointer (some ⟨b8, 0, none⟩)), (9, true, .pointer (some ⟨b9, 0, none⟩)), (37, true, .slice (some ⟨fb, fo, none⟩) 7 fcap), (38, true, .int .i64 7), (39, true, .int .i64 (u.1.1 : Int))]) (fun u => St w0 ((b9, 175, [u.1.2.1]) :: (u.1.2.2 ++ ((b8, 246, [.slice (some ⟨fb, fo, none⟩) 7 fcap]) :: E)))) (fun u => 7 - u.1.1) ⟨(0, .slice none 0 0, []), Nat.zero_le _, Frag.nil _ _⟩ ⟨rfl, rfl, rfl, rfl, rfl, rfl, rfl, trivial⟩ (fun _ h => h) ?_
        rintro ⟨⟨k, wv, Hw⟩, hk7, hF⟩
        dsimp only at hk7 hF ⊢
        refine Qe (Qg ?_)
        refine Qa rfl rfl (QT_lss rfl rfl rfl rfl) ?_
        refine Qf (Qb (Qe ?_))
        refine Qm rfl (fun h40 => ?_) (fun h40 => ?_)
        ·
          have hk : k < 7 := by omega
          obtain ⟨hp1, hp2⟩ := fldsC_part L ps (n := 7) hk
          have hfz : Sz Tryz.prog 251 (fld L ps k).length := KF.sz_251
          have hwl := wdR_le hc.1 k
          refine Qt (Qb (Qe (Qr (Qe (Qg ?_)))))
          refine Qa rfl rfl (QT_indexG k rfl rfl Tryz.underlying246 KF.sz_251 rfl rfl rfl (fun _ => hk) (fun _ => rfl)) ?_
          refine Qa rfl rfl (Qy (out := fld L ps k) (k * 3) rfl rfl Tryz.underlying251 rfl KF.sz_251 (hEf fun p => by simp only [List.countP_append, List.countP_cons]; omega) rfl (fun _ => hp1) (fun _ => hp2)) ?_
          refine TL_e rfl rfl rfl (rfl) (ET_alloc rfl KF.zero_251) ?_
          rintro _ _ ⟨b11, rfl, rfl⟩
          refine TL_e0 rfl rfl (rfl) (ET_storeW (vs := fld L ps k) 0 rfl rfl rfl hfz rfl (List.all_eq_true.2 (fld_one L ps k)) rfl) ?_
          rintro _ _ ⟨rfl, rfl⟩
          refine Qf (Qb ?_)
          refine TC_A (St w0 ((b11, 251, fld L ps k) :: (b9, 175, [wv]) :: (Hw ++ ((b8, 246, [.slice (some ⟨fb, fo, none⟩) 7 fcap]) :: E)))) (fun _ h => h) ?_
          refine Qg ?_
          refine Qa rfl rfl (Qj (v := wv) 1 rfl rfl Tryz.underlying175 rfl rfl rfl (fun _ => rfl)) ?_
          refine Qa rfl rfl (Qh rfl rfl KF.fld_251_0 rfl) ?_
          refine Qa rfl rfl (Qj (v := .int .i64 (wdR L k : Int)) 0 rfl rfl Tryz.underlying3 rfl rfl rfl (fun _ => rfl)) ?_
          refine TL_e rfl rfl rfl (rfl) (ET_buildN [_] rfl Tryz.underlying175 KF.sz_3 KF.zero_3 rfl rfl rfl (fun v hv => by cases List.mem_singleton.1 hv; rfl)) ?_
          rintro _ _ ⟨b46, rfl, rfl⟩
          refine TL_e rfl rfl rfl (rfl) (ET_appendL (L := [_, _, _]) rfl Tryz.underlying175 el_IntR rfl rfl hF (fun _ h => h) (SlA.own (n := 1) (xs := [.int .i64 (wdR L k : Int)]) 0 rfl rfl (Nat.le_refl 1) (by omega)) (fun u hu => by cases List.mem_singleton.1 hu; rfl) (by omega) (by omega)) ?_
          rintro wv2 _ ⟨H', hF', rfl⟩
          obtain ⟨wad2, wcap2, rfl, _, _⟩ := hF'.slice
          refine TL_e0 rfl rfl (rfl) (ET_store 2 rfl rfl rfl rfl KF.sz_175 rfl rfl rfl) ?_
          rintro _ _ ⟨rfl, rfl⟩
          refine Qf ?_
          refine Qo ?_
          refine Qb (Qg ?_)
          refine Qa rfl rfl (Zb rfl rfl rfl rfl (fun _ => ⟨by omega, by omega⟩)) ?_
          refine Qa rfl rfl (Qc rfl rfl rfl) ?_
          refine Qf ?_
          exact TX_round ⟨(k + 1, _, H'), by show k + 1 ≤ 7; omega, by rw [← wV_snoc hk] at hF'; exact hF'⟩ (by show 7 - (k + 1) < 7 - k; omega) ⟨rfl, rfl, rfl, rfl, rfl, rfl, rfl, trivial⟩ (fun _ h => h.tail.tail)
        ·
          refine Zd ?_
          refine Qi (Qi ?_)
          refine Qp ?_
          refine Qb (Qe ?_)
          obtain rfl : k = 7 := by omega
          rw [List.take_of_length_le (by rw [wR_len]; exact Nat.le_refl _)] at hF
          refine Qg ?_
          refine Qa rfl rfl (Qc rfl rfl rfl) ?_
          refine Qa rfl rfl (Za rfl rfl Tryz.underlying28 rfl) ?_
          refine Qa rfl rfl (Qc rfl rfl rfl) ?_
          refine Qa rfl rfl (QT_quo rfl rfl rfl rfl (fun _ => ⟨by omega, by omega, by rw [hsz]; omega⟩)) ?_
          refine TL_e rfl rfl rfl (rfl) (ET_make (bs.length / szR L) rfl Tryz.underlying31 el_RecR rfl rfl rfl (by rw [hsz, Int.natCast_ediv]) (by omega) (by omega)) ?_
          rintro _ _ ⟨b53, rest, rfl, hrest, rfl⟩
          refine TL_e rfl rfl rfl (rfl) (ET_alloc rfl KF.zero_31) ?_
          rintro _ _ ⟨b12, rfl, rfl⟩
          refine TL_e0 rfl rfl (rfl) (ET_store 0 rfl rfl rfl rfl KF.sz_31 rfl rfl rfl) ?_
          rintro _ _ ⟨rfl, rfl⟩
          refine Qf (Qb (Qe (Qe ?_)))
          rw [hsz]
          refine Qg ?_
          refine Qa rfl rfl (Qc rfl rfl rfl) ?_
          refine Qa rfl rfl (Qc rfl rfl rfl) ?_
          refine TL_e rfl rfl rfl (rfl) (ET_call rfl KF.cal_139 rfl (chunk_spec w0 _ bs.length cap (szR L) ad (by omega))) ?_
          rintro _ _ ⟨c1, c2, rfl, rfl⟩
          refine Qf (Qb (Qr ?_))
          obtain ⟨Y, hY⟩ : ∃ Y : Heap, Y = (c2, 3, [.int .i64 (szR L : Int)]) :: (c1, 28, [.slice ad bs.length cap]) :: (b9, 175, [wv]) :: (Hw ++ ((b8, 246, [.slice (some ⟨fb, fo, none⟩) 7 fcap]) :: E)) := ⟨_, rfl⟩
          refine TC_A (St w0 ((b12, 31, [.slice (some ⟨b53, 0, none⟩) 0 (bs.length / szR L)]) :: ([(b53, 77, [] ++ rest)] ++ Y))) (fun w h => by rw [hY]; exact (show St w0 ((c2, 3, [.int .i64 (szR L : Int)]) :: (c1, 28, [.slice ad bs.length cap]) :: (b12, 31, [.slice (some ⟨b53, 0, none⟩) 0 (bs.length / szR L)]) :: (b53, 77, [] ++ rest) :: (b9, 175, [wv]) :: (Hw ++ ((b8, 246, [.slice (some ⟨fb, fo, none⟩) 7 fcap]) :: E))) w from h).cnt fun p => by simp only [List.countP_append, List.countP_cons, List.countP_nil]; omega) ?_
          have hYc : ∀ p : Blk → Bool, Y.countP p = List.countP p [(c2, 3, [.int .i64 (szR L : Int)])] + List.countP p [(c1, 28, [.slice ad bs.length cap])] + List.countP p [(b9, 175, [wv])] + Hw.countP p + List.countP p [(b8, 246, [.slice (some ⟨fb, fo, none⟩) 7 fcap])] + E.countP p := fun p => by
            rw [hY]; simp only [List.countP_append, List.countP_cons, List.countP_nil]; omega
          have hYE : ∀ {X : Heap}, (∀ p : Blk → Bool, Y.countP p ≤ X.countP p) → ∀ p : Blk → Bool, E.countP p ≤ X.countP p := fun h p => by have := h p; rw [hYc] at this; omega
          have hm9 : (b9, 175, [wv]) ∈ Y := by rw [hY]; simp
          have hm8 : (b8, 246, [.slice (some ⟨fb, fo, none⟩) 7 fcap]) ∈ Y := by rw [hY]; simp
          have hm1 : (c1, 28, [.slice ad bs.length cap]) ∈ Y := by rw [hY]; simp
          have hm2 : (c2, 3, [.int .i64 (szR L : Int)]) ∈ Y := by rw [hY]; simp
          have hYw : ∀ {B : Base} {X : Heap}, (∀ p : Blk → Bool, Y.countP p ≤ X.countP p) → SlA (St B X) wv 1 (wR L).length (wV (wR L)) := fun {B X} h => by
            rw [wR_len]
            exact hF.within fun p => by have := h p; rw [hYc] at this; omega
          refine TC_range (m := 0) (bs.length / szR L) (chkV ad (szR L)) (fun k ζ => ∃ rv H, Frag 77 7 rv k (flatR (recsB L bs k)) H ∧ ζ = (b12, 31, [rv]) :: (H ++ Y)) (fun k => [(8, true, .pointer (some ⟨b8, 0, none⟩)), (9, true, .pointer (some ⟨b9, 0, none⟩)), (12, true, .pointer (some ⟨b12, 0, none⟩)), (13, true, chkV ad (szR L) k)]) rfl KF.cal_156 ⟨_, [(b53, 77, [] ++ rest)], ⟨rfl, .inr ⟨b53, _, rest, rfl, ⟨Nat.zero_le _, by omega⟩, by show bs.length / szR L * 7 ≤ rest.length; rw [hrest]; exact Nat.le_refl _, rfl⟩⟩, rfl⟩ rfl (fun B hU l => chunk_iter _ (fun k w h => by obtain ⟨ζ, hK, hS⟩ := h; exact ⟨ζ, hK, St.calm _ _ _ hS⟩) c1 c2 bs.length cap (szR L) (bs.length / szR L) l ad hcap (by omega) hNs (by omega) (fun k w h => by
            obtain ⟨ζ, ⟨rv, H, _, rfl⟩, hS⟩ := h
            exact Rd.ownA (w0 := B) (List.mem_cons_of_mem _ (List.mem_append_right _ hm1)) 0 rfl w hS) (fun k w h => by
            obtain ⟨ζ, ⟨rv, H, _, rfl⟩, hS⟩ := h
            exact Rd.ownA (w0 := B) (List.mem_cons_of_mem _ (List.mem_append_right _ hm2)) 0 rfl w hS)) ?assign ?body ?done
          ·
            intro B l k ζ hU hk hK
            refine TCI_reg ?_
            refine Qa rfl rfl (Qd rfl rfl rfl) ?_
            refine Qf ?_
            exact TX_AQ ⟨rfl, rfl, rfl, rfl, trivial⟩ (fun _ h => h)
          ·
            intro B l k ζ hU hk hK
            obtain ⟨rv, H, hFr, rfl⟩ := hK
            have hks : k * szR L + szR L ≤ bs.length := by
              have : (k + 1) * szR L ≤ bs.length / szR L * szR L := Nat.mul_le_mul_right _ hk
              rw [Nat.add_mul, hNs] at this
              omega
            obtain ⟨cs, hcs⟩ : ∃ cs, cs = (bs.drop (k * szR L)).take (szR L) := ⟨_, rfl⟩
            have hcl : cs.length = szR L := by rw [hcs, List.length_take, List.length_drop]; omega
            have hcb : ∀ c ∈ cs, c < 256 := fun c hc => hb c (by rw [hcs] at hc; exact List.mem_of_mem_drop (List.mem_of_mem_take hc))
            have hcv : ∀ {X : Heap}, (∀ p : Blk → Bool, Y.countP p ≤ X.countP p) → SlA (St B X) (chkV ad (szR L) k) 1 cs.length (byV cs) := fun h => by
              rw [hcl, hcs, byV_cut]
              exact (chkV_sla hs hks (by omega)).mono fun w hw => hEη hU (hYE h) hw
            have htot : tot (wR L) ≤ 8 * cs.length := by rw [hcl]; unfold szR; omega
            obtain ⟨v, hv⟩ : ∃ v, v = decN (wR L) (byB cs) := ⟨_, rfl⟩
            have hvl : v.length = 7 := by rw [hv, decN_len, wR_len]
            have hrec : setRN v 7 = recAt L bs k := by rw [hv, setRN_all, hcs, recAt_cut]
            refine TCI_block ?_
            refine TCI_seq ?_
            refine TCI_reg ?_
            refine TL_e rfl rfl rfl (rfl) (ET_alloc rfl KF.zero_77) ?_
            rintro _ _ ⟨b14, rfl, rfl⟩
            refine Qf ?_
            refine TXI_then ?_
            refine TCI_seq ?_
            refine TCI_seq ?_
            refine TCI_A (St B ((b14, 77, rvV (setRN v 0)) :: (b12, 31, [rv]) :: (H ++ Y))) (fun _ h => h) ?_
            refine TCI_reg ?_
            refine Qa rfl rfl (Qc rfl rfl rfl) ?_
            refine Qa rfl rfl (Qw (cs := [wv]) (v := wv) 0 rfl rfl Tryz.underlying175 rfl (Rd.ownA (w0 := B) (List.mem_cons_of_mem _ (List.mem_cons_of_mem _ (List.mem_append_right _ hm9))) 0 rfl) rfl (fun _ => rfl)) ?_
            refine TL_e rfl rfl rfl (rfl) (ET_call rfl KF.cal_140 rfl (read_spec B _ (chkV ad (szR L) k) wv cs (wR L) (hcv fun p => by simp only [List.countP_append, List.countP_cons]; omega) hcb (by omega) (hYw fun p => by simp only [List.countP_append, List.countP_cons]; omega) (by rw [wR_len]; decide) (wR_le hc.1) htot)) ?_
            rintro uv _ ⟨Hu, hFu, rfl⟩
            rw [wR_len, ← hv] at hFu
            obtain ⟨_, uad, ucap, ub, uo, rfl, hucap, huad, hurd⟩ := (hFu.sla (w0 := B) (η := [])).some
            obtain rfl := huad (by decide)
            refine Qa rfl rfl (Za rfl rfl Tryz.underlying255 rfl) ?_
            refine Qa rfl rfl (Qc rfl rfl rfl) ?_
            refine Qf ?_
            refine TXI_then ?_
            refine TCI_block ?_
            refine TCI_loop (γ := { j : Nat // j ≤ 7 }) (fun u => [(8, true, .pointer (some ⟨b8, 0, none⟩)), (9, true, .pointer (some ⟨b9, 0, none⟩)), (12, true, .pointer (some ⟨b12, 0, none⟩)), (14, true, .pointer (some ⟨b14, 0, none⟩)), (60, true, .slice (some ⟨ub, uo, none⟩) 7 ucap), (61, true, .int .i64 7), (62, true, .int .i64 (u.1 : Int))]) (fun u => St B ((b14, 77, rvV (setRN v u.1)) :: (Hu ++ ((b12, 31, [rv]) :: (H ++ Y))))) (fun u => 7 - u.1) ⟨0, Nat.zero_le _⟩ ⟨rfl, rfl, rfl, rfl, rfl, rfl, rfl, trivial⟩ (fun w h => h.cnt fun p => by simp only [List.countP_append, List.countP_cons, List.countP_nil]; omega) ?_
            rintro ⟨j, hj7⟩
            dsimp only at hj7 ⊢
            refine TCI_seq ?_
            refine TCI_reg ?_
            refine Qa rfl rfl (QT_lss rfl rfl rfl rfl) ?_
            refine Qf ?_
            refine TXI_then ?_
            refine TCI_seq ?_
            refine TCI_cond_dec rfl (fun h63 => ?_) (fun h63 => ?_)
            ·
              have hj : j < 7 := by omega
              obtain ⟨x, hx⟩ := get7 hvl hj
              have hst := setRN_step hj hx
              have hxv : (u32V v)[j]? = some (.int .u32 (x : Int)) := by simp [u32V, hx]
              have hx32 : x < 4294967296 := by
                rw [hv, decN_at (wR_at hj)] at hx
                cases hx
                have h1 := num_lt (((byB cs).drop (tot ((wR L).take j))).take (wdR L j))
                have h2 : (((byB cs).drop (tot ((wR L).take j))).take (wdR L j)).length ≤ 32 := by
                  rw [List.length_take]
                  have := wdR_le hc.1 j
                  omega
                exact Nat.lt_of_lt_of_le h1 (Nat.le_trans (Nat.pow_le_pow_right (by decide) h2) (by decide))
              have hfs : (fldsC L ps 7)[j * 3 + 2]? = some (.func (.func (sF j)) #[] (capF ps j)) := by rw [fldsC_at L ps hj (by decide)]; rfl
              refine TCI_skip ?_
              refine TXI_then ?_
              refine TCI_seq ?_
              refine TCI_block ?_
              refine TCI_seq ?_
              refine TCI_reg ?_
              refine Qa rfl rfl (Qc rfl rfl rfl) ?_
              refine Qa rfl rfl (QT_indexG j rfl rfl Tryz.underlying255 KF.sz_70 rfl rfl rfl (fun _ => hj) (fun _ => rfl)) ?_
              refine Qa rfl rfl (Qw (v := .int .u32 (x : Int)) j rfl rfl Tryz.underlying70 rfl (hurd.mono fun w h => h.cnt fun p => by simp only [List.countP_append, List.countP_cons, List.countP_nil]; omega) rfl (fun _ => hxv)) ?_
              refine Qa rfl rfl (Qd rfl rfl rfl) ?_
              refine Qa rfl rfl (Qd rfl rfl rfl) ?_
              refine Qf ?_
              refine TXI_then ?_
              refine TCI_reg ?_
              refine Qa rfl rfl (Qw (cs := [.slice (some ⟨fb, fo, none⟩) 7 fcap]) (v := .slice (some ⟨fb, fo, none⟩) 7 fcap) 0 rfl rfl Tryz.underlying246 rfl (Rd.ownA (w0 := B) (List.mem_cons_of_mem _ (List.mem_append_right _ (List.mem_cons_of_mem _ (List.mem_append_right _ hm8)))) 0 rfl) rfl (fun _ => rfl)) ?_
              refine Qa rfl rfl (Qc rfl rfl rfl) ?_
              refine Qa rfl rfl (QT_indexG j rfl rfl Tryz.underlying246 KF.sz_251 rfl rfl rfl (fun _ => hj) (fun _ => rfl)) ?_
              refine Qa rfl rfl (Qh rfl rfl KF.fld_251_2 rfl) ?_
              refine Qa rfl rfl (Qw (v := .func (.func (sF j)) #[] (capF ps j)) (j * 3 + 2) rfl rfl Tryz.underlying249 rfl (hEf (hYE fun p => by simp only [List.countP_append, List.countP_cons]; omega)) rfl (fun _ => hfs)) ?_
              refine Qa rfl rfl (Qc rfl rfl rfl) ?_
              refine TL_e rfl rfl rfl (rfl) (ET_goes (Goes.value rfl rfl (sF_ok j) rfl) (setter_spec B _ ps j b14 (setRN v j) x hj (setRN_len v j) hx32 (hEp (hYE fun p => by simp only [List.countP_append, List.countP_cons]; omega)))) ?_
              rintro _ _ ⟨rfl, rfl⟩
              refine Qf ?_
              refine Qo ?_
              refine TXI_then ?_
              refine TCI_reg ?_
              refine Qa rfl rfl (Zb rfl rfl rfl rfl (fun _ => ⟨by omega, by omega⟩)) ?_
              refine Qa rfl rfl (Qc rfl rfl rfl) ?_
              refine Qf ?_
              exact TX_round ⟨j + 1, hj⟩ (by show 7 - (j + 1) < 7 - j; omega) ⟨rfl, rfl, rfl, rfl, rfl, rfl, rfl, trivial⟩ (fun _ h => by rw [hst] at h; exact h)
            ·
              refine TCI_exit ?_
              refine Qi (Qi ?_)
              refine Qp ?_
              refine TXI_then ?_
              obtain rfl : j = 7 := by omega
              rw [hrec]
              have hrF : RcF (recAt L bs k) := dcR_rcf _ _
              have hrl : (rvV (recAt L bs k)).length = 7 := rvV_len hrF.len
              have hri := rvV_ints hrF
              refine TCI_A (St B ((b12, 31, [rv]) :: (b14, 77, rvV (recAt L bs k)) :: (H ++ Y))) (fun w h => h.cnt fun p => by simp only [List.countP_append, List.countP_cons, List.countP_nil]; omega) ?_
              refine TCI_reg ?_
              refine Qa rfl rfl (Qj 0 rfl rfl Tryz.underlying31 rfl rfl rfl (fun _ => rfl)) ?_
              refine Qa rfl rfl (Qy (out := rvV (recAt L bs k)) 0 rfl rfl Tryz.underlying77 rfl KF.sz_77 (Rd.own (w0 := B) (cs := rvV (recAt L bs k)) 1 rfl) rfl (fun _ => by omega) (fun _ => by rw [List.drop_zero, List.take_of_length_le (by omega)])) ?_
              refine TL_e rfl rfl rfl (rfl) (ET_buildN [_] rfl Tryz.underlying31 KF.sz_77 KF.zero_77 rfl rfl rfl (fun v hv => by cases List.mem_singleton.1 hv; exact hrl)) ?_
              rintro _ _ ⟨b77, rfl, rfl⟩
              refine TL_e rfl rfl rfl (rfl) (ET_appendL (L := [_, _, _]) rfl Tryz.underlying31 el_RecR rfl rfl hFr (fun _ h => h) (SlA.own (n := 1) (xs := rvV (recAt L bs k)) 0 rfl (by rw [List.drop_zero, List.take_of_length_le (by simp [Value.cells, hrl])]; simp [Value.cells]) (by simp [Value.cells, hrl]) (by omega)) hri.oneCell (by omega) (by omega)) ?_
              rintro rv2 _ ⟨H', hF', rfl⟩
              obtain ⟨rad2, rcap2, rfl, _, _⟩ := hF'.slice
              refine TL_e0 rfl rfl (rfl) (ET_store 1 rfl rfl rfl rfl KF.sz_31 rfl rfl rfl) ?_
              rintro _ _ ⟨rfl, rfl⟩
              refine Qf ?_
              refine Qo ?_
              refine TX_RQ fun w h => ⟨_, ⟨_, H', by rw [recsB_snoc, flatR_snoc]; exact hF', rfl⟩, ?_⟩
              have h' : St B ((b77, 77, _) :: (b12, 31, [.slice rad2 (k + 1) rcap2]) :: (b14, 77, rvV (recAt L bs k)) :: (H' ++ Y)) w := h
              exact h'.cnt fun p => by simp only [List.countP_append, List.countP_cons, List.countP_nil]; omega
          ·
            intro D ζ hK
            obtain ⟨rv, H, hFr, rfl⟩ := hK
            refine TXD_block ?_
            refine TXD_then ?_
            refine TCD_seq ?_
            refine TCD_reg ?_
            refine TLD_q rfl rfl (QT_under (Qj (w0 := w0) (η := (b12, 31, [rv]) :: (H ++ Y)) (v := rv) 0 rfl rfl Tryz.underlying31 rfl rfl rfl (fun _ => rfl)) (fun w h => h.1)) ?_
            refine TLD_q rfl rfl (Qd rfl rfl rfl) ?_
            refine TLD_q rfl rfl (Qd rfl rfl rfl) ?_
            refine TLD_nil ?_
            refine TXD_then ?_
            refine TCD_ret ?_
            exact fun a w hf hd hA => TXD_ret (w0 := w0) (η := H ++ η) (D := D) (fun a w hf => res2 (A := fun _ => True) rfl rfl rfl a w hf trivial) ⟨rv, H, by rw [eP], by rw [eO, recsB_len]; exact hFr, rfl⟩ a w hf hd ⟨hA.1.cnt fun p => by
              simp only [List.countP_append, List.countP_cons]
              rw [hYc, hEc]
              omega, hA.2⟩
end Go.Proofs.YtjdaglmkljbfkaaGreatDoor
namespace Go.Proofs.YtjdaglmkljbfkaaGreatDoor
open Go Go.Gx Go.RowKit
set_option maxRecDepth 100000
theorem layR_at {L : Lay} {k : Nat} {z : Int} {n : Nat} (h : L.cells[k]? = some (.int .i64 z)) (e : (n : Int) = z) : L.cells[k]? = some (.int .i64 (n : Int)) := by rw [e]; exact h
def okRB (L : Lay) : Bool := decide (okB L = true ∧ L.ty ≤ 5)
theorem rrcheck_spec (w0 : Base) (η : Heap) (L : Lay) :
    CallsT Tryz.prog 104 [L.val] (St w0 η) fun v A' => v = .bool (okRB L) ∧ A' = St w0 η := by
  refine CallsT.body Tryz.func104 rfl rfl ?_
  simp only [Tryz.ntmps104, slotsOf, Nat.reduceAdd]
  refine Qe (Qg ?_)
  refine TL_e rfl rfl rfl (rfl) (ET_box rfl rfl) ?_
  rintro _ _ ⟨b1, rfl, rfl⟩
  refine Qa rfl rfl (Qd rfl rfl rfl) ?_
  refine Qf (Qb (Qe (Qg ?_)))
  refine Qa rfl rfl (Ql 0 rfl rfl Tryz.underlying27 rfl rfl rfl KF.sz_27) ?_
  refine TL_cq rfl rfl rfl rfl KF.cal_28 rfl (fun _ => rcheck_spec w0 _ L) ?_
  refine Qa rfl rfl (QT_eql rfl rfl rfl rfl) ?_
  refine Qa rfl rfl (Qc rfl rfl rfl) ?_
  refine Qa rfl rfl (Qh rfl rfl KF.fld_27_0 rfl) ?_
  refine Qa rfl rfl (Qj 0 rfl rfl Tryz.underlying3 rfl rfl rfl (fun _ => rfl)) ?_
  refine Qa rfl rfl (QT_eql rfl rfl rfl rfl) ?_
  refine Qa rfl rfl (Qc rfl rfl rfl) ?_
  refine Qa rfl rfl (Qh rfl rfl KF.fld_27_0 rfl) ?_
  refine Qa rfl rfl (Qj 0 rfl rfl Tryz.underlying3 rfl rfl rfl (fun _ => rfl)) ?_
  refine Qa rfl rfl (QT_eql rfl rfl rfl rfl) ?_
  refine Qa rfl rfl (QT_or rfl rfl rfl rfl) ?_
  refine Qa rfl rfl (QT_and rfl rfl rfl rfl) ?_
  refine Qa rfl rfl (Qd rfl rfl rfl) ?_
  refine Qf (Qb ?_)
  refine Qu ?_
  exact Qs (.inl rfl) (res1 rfl rfl) ⟨_, ⟨by
    unfold okRB errOf
    by_cases h : okB L = true
    · have := (okB_bounds h).2.2.2.1
      rw [if_pos h]
      congr 1
      rw [Bool.eq_iff_iff]
      simp [h]
      omega
    · simp [h], rfl⟩, (fun _ h => by first | exact h | exact h.tail | exact h.tail.tail | exact h.tail.tail.tail | exact h.tail.tail.tail.tail | exact h.tail.tail.tail.tail.tail | exact h.tail.tail.tail.tail.tail.tail | exact h.tail.tail.tail.tail.tail.tail.tail | exact h.tail.tail.tail.tail.tail.tail.tail.tail | exact h.tail.tail.tail.tail.tail.tail.tail.tail.tail | exact h.tail.tail.tail.tail.tail.tail.tail.tail.tail.tail | exact h.tail.tail.tail.tail.tail.tail.tail.tail.tail.tail.tail | exact h.tail.tail.tail.tail.tail.tail.tail.tail.tail.tail.tail.tail | exact h.tail.tail.tail.tail.tail.tail.tail.tail.tail.tail.tail.tail.tail)⟩
theorem rflag_spec (w0 : Base) (η : Heap) (L : Lay) (hok : okB L = true) :
  CallsT Tryz.prog 107 [L.val] (St w0 η) fun v A' => v = .int .i64 (flN L : Int) ∧ A' = St w0 η := by
 have hfn := (flN_bd hok).2
 refine CallsT.body Tryz.func107 rfl rfl ?_
 simp only [Tryz.ntmps107, slotsOf, Nat.reduceAdd]
 refine Qe (Qg ?_)
 refine TL_e rfl rfl rfl (rfl) (ET_box rfl rfl) ?_
 rintro _ _ ⟨b1, rfl, rfl⟩
 refine Qa rfl rfl (Qd rfl rfl rfl) ?_
 refine Qf (Qb (Qe (Qe (Qg ?_))))
 refine Qa rfl rfl (Qh rfl rfl KF.fld_27_0 rfl) ?_
 refine Qa rfl rfl (Qj (v := .int .i64 L.ty) 0 rfl rfl Tryz.underlying3 rfl rfl rfl (fun _ => rfl)) ?_
 refine Qa rfl rfl (QT_eql rfl rfl rfl rfl) ?_
 refine Qf (Qb ?_)
 refine Qm rfl (fun h5 => ?_) (fun h5 => ?_)
 ·
  refine Qe (Qg ?_)
  refine Qa rfl rfl (Qd rfl rfl rfl) ?_
  refine Qf (Qb ?_)
  refine Qu ?_
  refine Qn ?_
  exact Qs (.inl rfl) (res1 rfl rfl) ⟨_, ⟨by rw [hfn]; unfold flb; rw [if_pos h5], rfl⟩, fun _ h => h.tail⟩
 ·
  refine Qt (Qb (Qe (Qg ?_)))
  refine Qa rfl rfl (Qh rfl rfl KF.fld_27_3 rfl) ?_
  refine Qa rfl rfl (Qj (v := .int .i64 L.fl) 0 rfl rfl Tryz.underlying3 rfl rfl rfl (fun _ => rfl)) ?_
  refine Qa rfl rfl (Qd rfl rfl rfl) ?_
  refine Qf (Qb ?_)
  refine Qu ?_
  exact Qs (.inl rfl) (res1 rfl rfl) ⟨_, ⟨by rw [hfn]; unfold flb; rw [if_neg h5], rfl⟩, fun _ h => h.tail⟩
end Go.Proofs.YtjdaglmkljbfkaaGreatDoor
namespace Go.Proofs.YtjdaglmkljbfkaaGreatDoor
open Go Go.Gx Go.RowKit
set_option maxRecDepth 100000
theorem shr_zeroR {v n : Nat} (hv : v < 4294967296) : decide ((v : Int).fdiv (2 ^ (min (n : Int).toNat IntKind.u64.bits)) = 0) = decide (v < 2 ^ n) := by
 rw [shr64 hv (Int.natCast_nonneg n), Bool.eq_iff_iff, decide_eq_true_eq, decide_eq_true_eq, Int.toNat_natCast, show ((v / 2 ^ n : Nat) : Int) = 0 ↔ v / 2 ^ n = 0 by omega, Nat.div_eq_zero_iff]
 have := Nat.two_pow_pos n
 omega
theorem fits_spec (w0 : Base) (η : Heap) (v n : Nat) (hv : v < 4294967296) (hn : n ≤ 64) :
  CallsT Tryz.prog 113 [.int .u32 (v : Int), .int .i64 (n : Int)] (St w0 η) fun r A' => r = .bool (decide (v < 2 ^ n)) ∧ A' = St w0 η := by
 refine CallsT.body Tryz.func113 rfl rfl ?_
 simp only [Tryz.ntmps113, slotsOf, Nat.reduceAdd]
 refine Qe (Qg ?_)
 refine Qa rfl rfl (Qd rfl rfl rfl) ?_
 refine Qf (Qb (Qe (Qg ?_)))
 refine Qa rfl rfl (Qc rfl rfl rfl) ?_
 refine Qa rfl rfl (QT_convN rfl rfl Tryz.underlying70 Tryz.underlying230 rfl (IntWalk.u64_in _ ⟨by omega, by omega⟩)) ?_
 refine Qa rfl rfl (Qc rfl rfl rfl) ?_
 refine Qa rfl rfl (QT_shr rfl rfl rfl rfl (fun _ => by omega)) ?_
 refine Qa rfl rfl (QT_v0 (QT_eql rfl rfl rfl rfl) (congrArg Value.bool (shr_zeroR hv))) ?_
 refine Qa rfl rfl (Qd rfl rfl rfl) ?_
 refine Qf (Qb ?_)
 refine Qu ?_
 exact Qs (.inl rfl) (res1 rfl rfl) ⟨_, ⟨rfl, rfl⟩, fun _ h => h⟩
theorem eR_skip {L : Lay} {r : List Nat} (hr : r.length = 7) : ∀ (n k : Nat), k + n ≤ 7 → (∀ p, k ≤ p → p < k + n → wdR L p = 0) → eR L r (k + n) = eR L r k
 | 0, _, _, _ => rfl
 | n + 1, k, hn, h => by
  obtain ⟨x, hx⟩ := get7 hr (show k + n < 7 by omega)
  rw [← Nat.add_assoc, eR_step hr hx, eR_skip hr n k (by omega) fun p h1 h2 => h p h1 (by omega), h (k + n) (by omega) (by omega)]
  simp [bitsN]
theorem fitR_of {L : Lay} {r : List Nat} (hr : r.length = 7) (h : ∀ j x, j < 7 → r[j]? = some x → x < 2 ^ wdR L j) : fitR L r = true := fitR_all fun j w m y h1 h2 => by
 have hj : j < 7 := by rw [← hr]; exact (List.getElem?_eq_some_iff.1 h2).1
 rw [wR_at hj] at h1
 cases h1
 exact h j y hj h2
theorem errRP_one {L : Lay} {rs : List (List Nat)} {r : List Nat} (hc : okB L = true ∧ L.ty ≤ 5) (hm : r ∈ rs) (hb : fitR L r = false) : errRP L rs = 1 := by
 unfold errRP
 rw [if_pos hc, if_neg]
 intro ha
 have := List.all_eq_true.1 ha r hm
 rw [hb] at this
 exact absurd this (by decide)
set_option maxHeartbeats 4000000 in
theorem rrput_spec (w0 : Base) (η : Heap) (L : Lay) (sv : Value) (rs : List (List Nat)) (hs : SlA (St w0 η) sv 7 rs.length (flatR rs)) (hr : ∀ r ∈ rs, RcF r) (hn : rs.length ≤ 100000000) :
    CallsT Tryz.prog 79 [L.val, sv] (St w0 η) fun v A' => ∃ bv H, v = .tuple #[bv, .int .i64 (errRP L rs)] ∧ Frag 5 1 bv (outRP L rs).length (byV (outRP L rs)) H ∧ A' = St w0 (H ++ η) := by
  obtain ⟨hfl, ad, cap, sb, so, rfl, hcap, had, hrd⟩ := hs.some
  refine CallsT.body Tryz.func79 rfl rfl ?_
  simp only [Tryz.ntmps79, slotsOf, Nat.reduceAdd]
  refine Qe (Qg ?_)
  refine TL_e rfl rfl rfl (rfl) (ET_box rfl rfl) ?_
  rintro _ _ ⟨b2, rfl, rfl⟩
  refine Qa rfl rfl (Qd rfl rfl rfl) ?_
  refine Qa rfl rfl (Qd rfl rfl rfl) ?_
  refine Qf (Qb (Qe (Qe ?_)))
  refine TC_A (St w0 ((b2, 27, L.cells) :: η)) (fun _ h => h) ?_
  refine Qg ?_
  refine Qa rfl rfl (Ql 0 rfl rfl Tryz.underlying27 rfl rfl rfl KF.sz_27) ?_
  refine TL_cq rfl rfl rfl rfl KF.cal_104 rfl (fun _ => rrcheck_spec w0 _ L) ?_
  refine Qa rfl rfl (QT_not rfl rfl rfl) ?_
  refine Qf (Qb ?_)
  refine TC_cond rfl (fun h15 => ?_) (fun h15 => ?_)
  ·
    refine Qe (Qg ?_)
    refine Qa rfl rfl (Qd rfl rfl rfl) ?_
    refine Qa rfl rfl (Qd rfl rfl rfl) ?_
    refine Qf (Qb ?_)
    refine Qu ?_
    refine Qn ?_
    have eP : errRP L rs = 4 := by
      unfold errRP; rw [if_neg]
      intro hc
      unfold okRB at h15
      simp [hc.1, hc.2] at h15
    exact Qs (.inl rfl) (res2 rfl rfl rfl) ⟨_, ⟨_, [], by rw [eP], fragNoneRB eP (by decide), rfl⟩, fun _ h => h.tail⟩
  ·
    refine Qt (Qb (Qe (Qe ?_)))
    have hc : okB L = true ∧ L.ty ≤ 5 := by
      unfold okRB at h15
      simpa using h15
    have hsz := sizeR_eq hc.1 (ty45 hc) 0
    have hszb := szR_bd hc.1
    have hsize := fun A => rsize_spec w0 A L 0 (by decide)
    rw [hsz] at hsize
    have hbd := okB_bounds hc.1
    have hco : (L.co.toNat : Int) = L.co := by have := hbd.1; omega
    have hcm : (L.cm.toNat : Int) = L.cm := by have := hbd.2.1; omega
    have hcs : (L.cs.toNat : Int) = L.cs := by have := hbd.2.2.1; omega
    have hco32 : L.co.toNat ≤ 32 := by have := hbd.1; omega
    have hcm16 : L.cm.toNat ≤ 16 := by have := hbd.2.1; omega
    have hcs4 : 1 ≤ L.cs.toNat ∧ L.cs.toNat ≤ 4 := by have := hbd.2.2.1; omega
    have lco : L.cells[0 + 1]? = some (.int .i64 (L.co.toNat : Int)) := layR_at rfl hco
    have lcm : L.cells[0 + 2]? = some (.int .i64 (L.cm.toNat : Int)) := layR_at rfl hcm
    have lcs : L.cells[0 + 4]? = some (.int .i64 (L.cs.toNat : Int)) := layR_at rfl hcs
    have hfl8 := (flN_bd hc.1).1
    have hflag := fun A => rflag_spec w0 A L hc.1
    have hw0 : wdR L 0 = flN L := rfl
    have hw1 : wdR L 1 = L.co.toNat := rfl
    have hw2 : wdR L 2 = L.co.toNat := rfl
    have hw3 : ∀ c, wdR L (3 + c) = if c < L.cs.toNat then L.cm.toNat else 0 := fun c => by unfold wdR; rw [if_neg (by omega), if_neg (by omega), show 3 + c - 3 = c by omega]
    generalize hFL : flN L = FL at hfl8 hflag hw0
    generalize hCO : L.co.toNat = CO at lco hco32 hw1 hw2
    generalize hCM : L.cm.toNat = CM at lcm hcm16 hw3
    generalize hCS : L.cs.toNat = CS at lcs hcs4 hw3
    refine Qg ?_
    refine Qa rfl rfl (Qd rfl rfl rfl) ?_
    refine Qf (Qb (Qr ?_))
    refine TC_loop (γ := { i : Nat // i ≤ rs.length ∧ (rs.take i).all (fitR L) = true }) (fun u => [(1, true, .slice ad rs.length cap), (2, true, .pointer (some ⟨b2, 0, none⟩)), (6, true, .int .i64 (u.1 : Int))]) (fun u => St w0 ((b2, 27, L.cells) :: η)) (fun u => rs.length - u.1) ⟨0, Nat.zero_le _, rfl⟩ ⟨rfl, rfl, rfl, trivial⟩ (fun _ h => h) ?_
    rintro ⟨i, hin, hfit⟩
    dsimp only
    refine Qe (Qe (Qg ?_))
    refine Qa rfl rfl (Qc rfl rfl rfl) ?_
    refine Qa rfl rfl (Qc rfl rfl rfl) ?_
    refine Qa rfl rfl (Za rfl rfl Tryz.underlying31 rfl) ?_
    refine Qa rfl rfl (QT_lss rfl rfl rfl rfl) ?_
    refine Qf (Qb ?_)
    refine Qm rfl (fun h19 => ?_) (fun h19 => ?_)
    ·
      have hi' : i < rs.length := by omega
      obtain ⟨r, hri⟩ : ∃ r, rs[i]? = some r := ⟨_, List.getElem?_eq_getElem hi'⟩
      have hrm := List.mem_of_getElem? hri
      have hrF := hr r hrm
      obtain ⟨hat1, hat2⟩ := flatR_at hr hri
      have htk := take_snocX hri
      have hrl : (rvV r).length = 7 := rvV_len hrF.len
      have hrz : Sz Tryz.prog 77 (rvV r).length := by rw [hrl]; exact KF.sz_77
      have hri2 := rvV_ints hrF
      obtain ⟨x0, hx0⟩ := get7 hrF.len (show 0 < 7 by decide)
      obtain ⟨x1, hx1⟩ := get7 hrF.len (show 1 < 7 by decide)
      obtain ⟨x2, hx2⟩ := get7 hrF.len (show 2 < 7 by decide)
      have l0 : x0 < 256 := hrF.lt hx0
      have l1 : x1 < 4294967296 := hrF.lt hx1
      have l2 : x2 < 4294967296 := hrF.lt hx2
      have v0 : (rvV r)[0]? = some (.int .u8 (x0 : Int)) := rvV_at (by decide) hx0
      have v1 : (rvV r)[1]? = some (.int .u32 (x1 : Int)) := rvV_at (by decide) hx1
      have v2 : (rvV r)[2]? = some (.int .u32 (x2 : Int)) := rvV_at (by decide) hx2
      refine Qt (Qb (Qe (Qr (Qe (Qg ?_)))))
      refine Qa rfl rfl (Qc rfl rfl rfl) ?_
      refine Qa rfl rfl (Qc rfl rfl rfl) ?_
      refine Qa rfl rfl (QT_indexG i rfl rfl Tryz.underlying31 KF.sz_77 rfl rfl rfl (fun _ => hi') (fun _ => had (by omega))) ?_
      refine Qa rfl rfl (Qy (out := rvV r) (i * 7) rfl rfl Tryz.underlying77 rfl KF.sz_77 (hrd.mono fun w h => h.tail) rfl (fun _ => hat1) (fun _ => hat2)) ?_
      refine TL_e rfl rfl rfl (rfl) (ET_alloc rfl KF.zero_77) ?_
      rintro _ _ ⟨b7, rfl, rfl⟩
      refine TL_e0 rfl rfl (rfl) (ET_storeW (vs := rvV r) 0 rfl rfl rfl hrz rfl (List.all_eq_true.2 hri2.oneCell) (by rw [hrl]; rfl)) ?_
      rintro _ _ ⟨rfl, rfl⟩
      refine Qf (Qb (Qe (Qe ?_)))
      refine TC_A (St w0 ((b7, 77, rvV r) :: (b2, 27, L.cells) :: η)) (fun _ h => h) ?_
      refine TC_draw [(0, 0), (1, 0), (2, 0), (3, 0), (4, 1), (5, 1), (6, 0), (7, 0), (8, 0), (9, 0), (10, 0), (11, 0), (12, 0), (13, 1), (14, 0), (15, 0), (16, 0), (17, 0), (18, 0), (19, 0), (20, 0), (21, 0), (22, 1), (23, 0), (24, 0)] KF.mixed (by kernel_rfl) (St.calm _ _) ?_
      refine Qk rfl rfl rfl (fun _ => Qh rfl rfl KF.fld_77_0 rfl) ?_
      refine Qz rfl rfl rfl (Qj (v := .int .u8 (x0 : Int)) 0 rfl rfl Tryz.underlying5 rfl rfl rfl (fun _ => v0)) ?_
      refine Qk rfl rfl rfl (fun _ => QT_convN rfl rfl Tryz.underlying5 Tryz.underlying70 rfl (IntWalk.u32_in _ ⟨by omega, by omega⟩)) ?_
      refine Qz rfl rfl rfl (Ql 1 rfl rfl Tryz.underlying27 rfl rfl rfl KF.sz_27) ?_
      refine TV_cq rfl rfl rfl rfl rfl KF.cal_107 rfl (fun _ => hflag _) (.drop (by kernel_rfl) (.keep (by kernel_rfl) rfl (by first | exact Qj (v := .int .u8 (x0 : Int)) 0 rfl rfl Tryz.underlying5 rfl rfl rfl (fun _ => v0)) (.nil))) ?_
      refine TV_cq rfl rfl rfl rfl rfl KF.cal_113 rfl (fun _ => fits_spec w0 _ x0 FL (by omega) (by omega)) (.keep (by kernel_rfl) rfl (by first | exact Qj (v := .int .u8 (x0 : Int)) 0 rfl rfl Tryz.underlying5 rfl rfl rfl (fun _ => v0)) (.nil)) ?_
      refine Qk rfl rfl rfl (fun _ => QT_not rfl rfl rfl) ?_
      refine Qk rfl rfl rfl (fun _ => Qc rfl rfl rfl) ?_
      refine Qk rfl rfl rfl (fun _ => Qh rfl rfl KF.fld_77_1 rfl) ?_
      refine Qk rfl rfl rfl (fun _ => Qh rfl rfl KF.fld_72_0 rfl) ?_
      refine Qz rfl rfl rfl (Qj (v := .int .u32 (x1 : Int)) 0 rfl rfl Tryz.underlying70 rfl rfl rfl (fun _ => v1)) ?_
      refine Qk rfl rfl rfl (fun _ => Qh rfl rfl KF.fld_27_1 rfl) ?_
      refine Qz rfl rfl rfl (Qj (v := .int .i64 (CO : Int)) 1 rfl rfl Tryz.underlying3 rfl rfl rfl (fun _ => lco)) ?_
      refine TV_cq rfl rfl rfl rfl rfl KF.cal_113 rfl (fun _ => fits_spec w0 _ x1 CO l1 (by omega)) (.drop (by kernel_rfl) (.drop (by kernel_rfl) (.keep (by kernel_rfl) rfl (by first | exact Qj (v := .int .u8 (x0 : Int)) 0 rfl rfl Tryz.underlying5 rfl rfl rfl (fun _ => v0)) (.nil)))) ?_
      refine Qk rfl rfl rfl (fun _ => QT_not rfl rfl rfl) ?_
      refine Qk rfl rfl rfl (fun _ => QT_or rfl rfl rfl rfl) ?_
      refine Qk rfl rfl rfl (fun _ => Qc rfl rfl rfl) ?_
      refine Qk rfl rfl rfl (fun _ => Qh rfl rfl KF.fld_77_1 rfl) ?_
      refine Qk rfl rfl rfl (fun _ => Qh rfl rfl KF.fld_72_1 rfl) ?_
      refine Qz rfl rfl rfl (Qj (v := .int .u32 (x2 : Int)) 0 rfl rfl Tryz.underlying70 rfl rfl rfl (fun _ => v2)) ?_
      refine Qk rfl rfl rfl (fun _ => Qh rfl rfl KF.fld_27_1 rfl) ?_
      refine Qz rfl rfl rfl (Qj (v := .int .i64 (CO : Int)) 1 rfl rfl Tryz.underlying3 rfl rfl rfl (fun _ => lco)) ?_
      refine TV_cq rfl rfl rfl rfl rfl KF.cal_113 rfl (fun _ => fits_spec w0 _ x2 CO l2 (by omega)) (.drop (by kernel_rfl) (.drop (by kernel_rfl) (.keep (by kernel_rfl) rfl (by first | exact Qj (v := .int .u8 (x0 : Int)) 0 rfl rfl Tryz.underlying5 rfl rfl rfl (fun _ => v0)) (.nil)))) ?_
      refine Qk rfl rfl rfl (fun _ => QT_not rfl rfl rfl) ?_
      refine Qk rfl rfl rfl (fun _ => QT_or rfl rfl rfl rfl) ?_
      refine TV_end (Qb ?_)
      refine TC_cond rfl (fun h50 => ?_) (fun h50 => ?_)
      ·
        have hbad : fitR L r = false := by
          simp only [Bool.or_eq_true, Bool.not_eq_true', decide_eq_false_iff_not] at h50
          rcases h50 with (h | h) | h
          · exact fitR_not hrF.len hx0 (by rw [hw0]; exact h)
          · exact fitR_not hrF.len hx1 (by rw [hw1]; exact h)
          · exact fitR_not hrF.len hx2 (by rw [hw2]; exact h)
        have eP := errRP_one hc hrm hbad
        refine Qe (Qg ?_)
        refine Qa rfl rfl (Qd rfl rfl rfl) ?_
        refine Qa rfl rfl (Qd rfl rfl rfl) ?_
        refine Qf (Qb ?_)
        refine Qu ?_
        refine Qn ?_
        refine Zc ?_
        refine Qn ?_
        refine Qn ?_
        refine Zc ?_
        refine Qn ?_
        exact Qs (.inl rfl) (res2 rfl rfl rfl) ⟨_, ⟨_, [], by rw [eP], fragNoneRB eP (by decide), rfl⟩, fun _ h => h.tail.tail⟩
      ·
        simp only [Bool.or_eq_false_iff, Bool.not_eq_false', decide_eq_true_eq] at h50
        obtain ⟨⟨f0, f1⟩, f2⟩ := h50
        have hbeg : ∀ j x, j < 3 → r[j]? = some x → x < 2 ^ wdR L j := fun j x hj hx => by
          match j, hj with
          | 0, _ => rw [hx0] at hx; cases hx; rw [hw0]; exact f0
          | 1, _ => rw [hx1] at hx; cases hx; rw [hw1]; exact f1
          | 2, _ => rw [hx2] at hx; cases hx; rw [hw2]; exact f2
          | j + 3, h => exact absurd h (by omega)
        refine Qt (Qb (Qe (Qg ?_)))
        refine Qa rfl rfl (Qd rfl rfl rfl) ?_
        refine Qf (Qb (Qr ?_))
        refine TC_loop (γ := { c : Nat // c ≤ 4 ∧ ∀ j x, j < 3 + c → r[j]? = some x → x < 2 ^ wdR L j }) (fun u => [(1, true, .slice ad rs.length cap), (2, true, .pointer (some ⟨b2, 0, none⟩)), (6, true, .int .i64 (i : Int)), (7, true, .pointer (some ⟨b7, 0, none⟩)), (8, true, .int .i64 (u.1 : Int))]) (fun u => St w0 ((b7, 77, rvV r) :: (b2, 27, L.cells) :: η)) (fun u => 4 - u.1) ⟨0, by decide, hbeg⟩ ⟨rfl, rfl, rfl, rfl, rfl, trivial⟩ (fun _ h => h) ?_
        rintro ⟨c, hc4, hfc⟩
        dsimp only
        refine Qe (Qe (Qg ?_))
        refine Qa rfl rfl (Qc rfl rfl rfl) ?_
        refine Qa rfl rfl (QT_lss rfl rfl rfl rfl) ?_
        refine Qf (Qb ?_)
        refine Qm rfl (fun h52 => ?_) (fun h52 => ?_)
        ·
          have hcl : c < 4 := by omega
          obtain ⟨x, hx⟩ := get7 hrF.len (show 3 + c < 7 by omega)
          have hkm : rkM (3 + c) = 65536 := by unfold rkM; rw [if_neg (by omega), if_neg (by omega)]
          have lx : x < 65536 := by rw [← hkm]; exact hrF.lt hx
          have vx := rvV_at (xs := r) (p := 3 + c) (by omega) hx
          rw [show rkK (3 + c) = .u16 by unfold rkK; rw [if_neg (by omega), if_neg (by omega)]] at vx
          refine Qt (Qb (Qe (Qr (Qe ?_))))
          refine TC_draw [(0, 0), (1, 0), (2, 0), (3, 0), (4, 0), (5, 0), (6, 0), (7, 0), (8, 0), (9, 0), (10, 0), (11, 0), (12, 1), (13, 0), (14, 0), (15, 0), (16, 0), (17, 0), (18, 0), (19, 0), (20, 0), (21, 0), (22, 0), (23, 0), (24, 0), (25, 0), (26, 0), (27, 0)] KF.mixed (by kernel_rfl) (St.calm _ _) ?_
          refine Qk rfl rfl rfl (fun _ => Qc rfl rfl rfl) ?_
          refine Qk rfl rfl rfl (fun _ => Qh rfl rfl KF.fld_27_4 rfl) ?_
          refine Qz rfl rfl rfl (Qj (v := .int .i64 (CS : Int)) 1 rfl rfl Tryz.underlying3 rfl rfl rfl (fun _ => lcs)) ?_
          refine Qk rfl rfl rfl (fun _ => QT_lss rfl rfl rfl rfl) ?_
          refine Qk rfl rfl rfl (fun _ => Qc rfl rfl rfl) ?_
          refine Qk rfl rfl rfl (fun _ => Qc rfl rfl rfl) ?_
          refine Qk rfl rfl rfl (fun _ => Qh rfl rfl KF.fld_77_2 rfl) ?_
          refine Qk rfl rfl rfl (fun _ => QT_indexArr c rfl rfl Tryz.underlying75 KF.sz_73 rfl rfl rfl (fun _ => hcl)) ?_
          refine Qz rfl rfl rfl (Qw (v := .int .u16 (x : Int)) (3 + c) rfl rfl Tryz.underlying73 rfl (Rd.own 0 rfl) rfl (fun _ => vx)) ?_
          refine Qk rfl rfl rfl (fun _ => QT_convN rfl rfl Tryz.underlying73 Tryz.underlying70 rfl (IntWalk.u32_in _ ⟨by omega, by omega⟩)) ?_
          refine Qk rfl rfl rfl (fun _ => Qh rfl rfl KF.fld_27_2 rfl) ?_
          refine Qz rfl rfl rfl (Qj (v := .int .i64 (CM : Int)) 1 rfl rfl Tryz.underlying3 rfl rfl rfl (fun _ => lcm)) ?_
          refine TV_cq rfl rfl rfl rfl rfl KF.cal_113 rfl (fun _ => fits_spec w0 _ x CM (by omega) (by omega)) (.drop (by kernel_rfl) (.keep (by kernel_rfl) rfl (by first | exact Qw (v := .int .u16 (x : Int)) (3 + c) rfl rfl Tryz.underlying73 rfl (Rd.own 0 rfl) rfl (fun _ => vx)) (.keep (by kernel_rfl) rfl (by first | exact Qj (v := .int .i64 (CS : Int)) 1 rfl rfl Tryz.underlying3 rfl rfl rfl (fun _ => lcs)) (.nil)))) ?_
          refine Qk rfl rfl rfl (fun _ => QT_not rfl rfl rfl) ?_
          refine Qk rfl rfl rfl (fun _ => QT_and rfl rfl rfl rfl) ?_
          refine Qk rfl rfl rfl (fun _ => Qc rfl rfl rfl) ?_
          refine Qk rfl rfl rfl (fun _ => Qc rfl rfl rfl) ?_
          refine Qk rfl rfl rfl (fun _ => Qh rfl rfl KF.fld_27_4 rfl) ?_
          refine Qz rfl rfl rfl (Qj (v := .int .i64 (CS : Int)) 1 rfl rfl Tryz.underlying3 rfl rfl rfl (fun _ => lcs)) ?_
          refine Qk rfl rfl rfl (fun _ => QT_geq rfl rfl rfl rfl) ?_
          refine Qk rfl rfl rfl (fun _ => Qc rfl rfl rfl) ?_
          refine Qk rfl rfl rfl (fun _ => Qc rfl rfl rfl) ?_
          refine Qk rfl rfl rfl (fun _ => Qh rfl rfl KF.fld_77_2 rfl) ?_
          refine Qk rfl rfl rfl (fun _ => QT_indexArr c rfl rfl Tryz.underlying75 KF.sz_73 rfl rfl rfl (fun _ => hcl)) ?_
          refine Qz rfl rfl rfl (Qw (v := .int .u16 (x : Int)) (3 + c) rfl rfl Tryz.underlying73 rfl (Rd.own 0 rfl) rfl (fun _ => vx)) ?_
          refine Qk rfl rfl rfl (fun _ => QT_neq rfl rfl rfl rfl) ?_
          refine Qk rfl rfl rfl (fun _ => QT_and rfl rfl rfl rfl) ?_
          refine Qk rfl rfl rfl (fun _ => QT_or rfl rfl rfl rfl) ?_
          refine TV_end (Qb ?_)
          refine TC_cond rfl (fun h82 => ?_) (fun h82 => ?_)
          ·
            have hbad : fitR L r = false := by
              refine fitR_not hrF.len hx ?_
              rw [hw3]
              simp only [Bool.or_eq_true, Bool.and_eq_true, Bool.not_eq_true', decide_eq_true_eq, decide_eq_false_iff_not] at h82
              split
              · intro h; omega
              · intro h; rw [Nat.pow_zero] at h; omega
            have eP := errRP_one hc hrm hbad
            refine Qe (Qg ?_)
            refine Qa rfl rfl (Qd rfl rfl rfl) ?_
            refine Qa rfl rfl (Qd rfl rfl rfl) ?_
            refine Qf (Qb ?_)
            refine Qu ?_
            refine Zc ?_
            refine Qn ?_
            refine Qn ?_
            refine Zc ?_
            refine Zc ?_
            refine Qn ?_
            refine Qn ?_
            refine Zc ?_
            refine Qn ?_
            exact Qs (.inl rfl) (res2 rfl rfl rfl) ⟨_, ⟨_, [], by rw [eP], fragNoneRB eP (by decide), rfl⟩, fun _ h => h.tail.tail⟩
          ·
            have hfx : x < 2 ^ wdR L (3 + c) := by
              rw [hw3]
              simp only [Bool.or_eq_false_iff, Bool.and_eq_false_iff, Bool.not_eq_false', decide_eq_true_eq, decide_eq_false_iff_not] at h82
              split
              · omega
              · rw [Nat.pow_zero]; omega
            refine Qt ?_
            refine Qo ?_
            refine Qb (Qg ?_)
            refine Qa rfl rfl (Qc rfl rfl rfl) ?_
            refine Qa rfl rfl (Zb rfl rfl rfl rfl (fun _ => ⟨by omega, by omega⟩)) ?_
            refine Qa rfl rfl (Qd rfl rfl rfl) ?_
            refine Qf ?_
            refine TX_round ⟨c + 1, hcl, fun j y hj hy => ?_⟩ (by show 4 - (c + 1) < 4 - c; omega) ⟨rfl, rfl, rfl, rfl, rfl, trivial⟩ (fun _ h => h)
            by_cases e : j = 3 + c
            · subst e; rw [hx] at hy; cases hy; exact hfx
            · exact hfc j y (by have : j < 3 + (c + 1) := hj; omega) hy
        ·
          refine Zd ?_
          refine Qi (Qi ?_)
          refine Qp ?_
          refine Qo ?_
          refine Qb ?_
          obtain rfl : c = 4 := by omega
          have hok1 : fitR L r = true := fitR_of hrF.len fun j x hj hx => hfc j x (by omega) hx
          refine Qg ?_
          refine Qa rfl rfl (Qc rfl rfl rfl) ?_
          refine Qa rfl rfl (Zb rfl rfl rfl rfl (fun _ => ⟨by omega, by omega⟩)) ?_
          refine Qa rfl rfl (Qd rfl rfl rfl) ?_
          refine Qf ?_
          refine TX_round ⟨i + 1, hi', ?_⟩ (by show rs.length - (i + 1) < rs.length - i; omega) ⟨rfl, rfl, rfl, trivial⟩ (fun _ h => h.tail)
          rw [htk, List.all_append, hfit]
          simp [hok1]
    ·
      refine Zd ?_
      refine Qi (Qi ?_)
      refine Qp ?_
      refine Qb (Qe (Qe ?_))
      obtain rfl : i = rs.length := by omega
      rw [List.take_of_length_le (Nat.le_refl _)] at hfit
      have hfit1 := List.all_eq_true.1 hfit
      have hbl := bytesR_len (L := L) (rs := rs) hr
      have hml : (rs.length : Int) * (szR L : Int) = ((bytesR L rs).length : Int) := by rw [hbl, Int.natCast_mul]
      have hb17 : (bytesR L rs).length ≤ 17 * rs.length := by rw [hbl, Nat.mul_comm]; exact Nat.mul_le_mul hszb.2.1 (Nat.le_refl _)
      refine Qg ?_
      refine Qa rfl rfl (Qc rfl rfl rfl) ?_
      refine Qa rfl rfl (Za rfl rfl Tryz.underlying31 rfl) ?_
      refine Qa rfl rfl (Ql 0 rfl rfl Tryz.underlying27 rfl rfl rfl KF.sz_27) ?_
      refine TL_cq rfl rfl rfl rfl KF.cal_105 rfl (fun _ => hsize _) ?_
      refine Qa rfl rfl (QT_to (QT_mul rfl rfl rfl rfl (fun _ => by rw [hml]; exact ⟨by omega, by omega⟩)) hml) ?_
      refine Qa rfl rfl (QT_gtr rfl rfl rfl rfl) ?_
      refine Qf (Qb ?_)
      refine Qm rfl (fun h88 => ?_) (fun h88 => ?_)
      ·
        refine Qe (Qg ?_)
        refine Qa rfl rfl (Qd rfl rfl rfl) ?_
        refine Qa rfl rfl (Qd rfl rfl rfl) ?_
        refine Qf (Qb ?_)
        refine Qu ?_
        refine Qn ?_
        have eP : errRP L rs = 3 := by unfold errRP; rw [if_pos hc, if_pos hfit, if_pos (by omega)]
        exact Qs (.inl rfl) (res2 rfl rfl rfl) ⟨_, ⟨_, [], by rw [eP], fragNoneRB eP (by decide), rfl⟩, fun _ h => h.tail⟩
      ·
        refine Qt (Qb (Qe ?_))
        have eP : errRP L rs = 0 := by unfold errRP; rw [if_pos hc, if_pos hfit, if_neg (by omega)]
        have eO : outRP L rs = bytesR L rs := by unfold outRP; rw [if_pos eP]
        refine Qg ?_
        refine Qa rfl rfl (Qd rfl rfl rfl) ?_
        refine Qf (Qb (Qe (Qe (Qg ?_))))
        refine Qa rfl rfl (Qd rfl rfl rfl) ?_
        refine Qf (Qb (Qr ?_))
        refine TC_loop (γ := { t : Nat × Value × Heap // t.1 ≤ rs.length ∧ Frag 5 1 t.2.1 (bytesR L (rs.take t.1)).length (byV (bytesR L (rs.take t.1))) t.2.2 }) (fun u => [(1, true, .slice ad rs.length cap), (2, true, .pointer (some ⟨b2, 0, none⟩)), (9, true, u.1.2.1), (10, true, .int .i64 (u.1.1 : Int))]) (fun u => St w0 ((b2, 27, L.cells) :: (u.1.2.2 ++ η))) (fun u => rs.length - u.1.1) ⟨(0, .slice none 0 0, []), Nat.zero_le _, Frag.nil _ _⟩ ⟨rfl, rfl, rfl, rfl, trivial⟩ (fun _ h => h) ?_
        rintro ⟨⟨i, bv, H⟩, hin, hF⟩
        dsimp only at hin hF ⊢
        refine Qe (Qe (Qg ?_))
        refine Qa rfl rfl (Qc rfl rfl rfl) ?_
        refine Qa rfl rfl (Qc rfl rfl rfl) ?_
        refine Qa rfl rfl (Za rfl rfl Tryz.underlying31 rfl) ?_
        refine Qa rfl rfl (QT_lss rfl rfl rfl rfl) ?_
        refine Qf (Qb ?_)
        refine Qm rfl (fun h92 => ?_) (fun h92 => ?_)
        ·
          have hi' : i < rs.length := by omega
          obtain ⟨r, hri⟩ : ∃ r, rs[i]? = some r := ⟨_, List.getElem?_eq_getElem hi'⟩
          have hrm := List.mem_of_getElem? hri
          have hrF := hr r hrm
          have hrfit := hfit1 r hrm
          obtain rfl := had (by omega)
          have htk := take_snocX hri
          have hel := fun {p : Nat} (hp : p < 7) => flatR_elem hr hri hp
          have hpl : (packR L r).length ≤ 17 := by rw [packR_len hrF]; exact hszb.2.1
          have hbi := bytesR_len (L := L) (rs := rs.take i) fun z hz => hr z (List.mem_of_mem_take hz)
          have hbi2 : (bytesR L (rs.take i)).length ≤ 17 * rs.length := by
            rw [hbi, List.length_take, Nat.mul_comm]
            exact Nat.mul_le_mul hszb.2.1 (by omega)
          obtain ⟨x0, hx0⟩ := get7 hrF.len (show 0 < 7 by decide)
          obtain ⟨x1, hx1⟩ := get7 hrF.len (show 1 < 7 by decide)
          obtain ⟨x2, hx2⟩ := get7 hrF.len (show 2 < 7 by decide)
          have l0 : x0 < 256 := hrF.lt hx0
          have l1 : x1 < 4294967296 := hrF.lt hx1
          have l2 : x2 < 4294967296 := hrF.lt hx2
          have v0 : (flatR rs)[i * 7 + 0]? = some (.int .u8 (x0 : Int)) := by rw [hel (by decide)]; exact rvV_at (by decide) hx0
          have v1 : (flatR rs)[i * 7 + 1]? = some (.int .u32 (x1 : Int)) := by rw [hel (by decide)]; exact rvV_at (by decide) hx1
          have v2 : (flatR rs)[i * 7 + 2]? = some (.int .u32 (x2 : Int)) := by rw [hel (by decide)]; exact rvV_at (by decide) hx2
          have f0 : x0 < 2 ^ FL := by rw [← hw0]; exact fitB_atX hrfit (wR_at (by decide)) hx0
          have f1 : x1 < 2 ^ CO := by rw [← hw1]; exact fitB_atX hrfit (wR_at (by decide)) hx1
          have f2 : x2 < 2 ^ CO := by rw [← hw2]; exact fitB_atX hrfit (wR_at (by decide)) hx2
          have heL := eR_len hc.1 hrF.len
          have s0 : eR L r 1 = eR L r 0 ++ bitsN (wdR L 0) x0 := eR_step (L := L) hrF.len hx0
          have s1 : eR L r 2 = eR L r 1 ++ bitsN (wdR L 1) x1 := eR_step (L := L) hrF.len hx1
          have s2 : eR L r 3 = eR L r 2 ++ bitsN (wdR L 2) x2 := eR_step (L := L) hrF.len hx2
          rw [hw0] at s0
          rw [hw1] at s1
          rw [hw2] at s2
          have q0 := heL 0
          have q1 := heL 1
          have q2 := heL 2
          have hLr := fun (K : Heap) => (Rd.own (w0 := w0) (η := (b2, 27, L.cells) :: (H ++ η)) 0 rfl).mono fun w (h : St w0 (K ++ ((b2, 27, L.cells) :: (H ++ η))) w) => h.app_right
          have hSr := fun (K : Heap) => hrd.mono fun w (h : St w0 (K ++ ((b2, 27, L.cells) :: (H ++ η))) w) => h.app_right.tail.app_right
          refine Qt (Qb (Qe (Qr (Qe (Qg ?_)))))
          refine TL_e rfl rfl rfl (rfl) (ET_call rfl KF.cal_114 rfl (rnew_spec w0 _)) ?_
          rintro _ _ ⟨mb, K, rfl, hK, rfl⟩
          refine Qa rfl rfl (Qd rfl rfl rfl) ?_
          refine Qf (Qb (Qe ?_))
          refine TC_draw [(0, 0), (1, 0), (2, 0), (3, 0), (4, 0), (5, 0), (6, 0), (7, 0), (8, 1), (9, 1)] KF.mixed (by kernel_rfl) (St.calm _ _) ?_
          refine Qk rfl rfl rfl (fun _ => Qc rfl rfl rfl) ?_
          refine Qk rfl rfl rfl (fun _ => Qc rfl rfl rfl) ?_
          refine Qk rfl rfl rfl (fun _ => Qc rfl rfl rfl) ?_
          refine Qk rfl rfl rfl (fun _ => QT_indexG i rfl rfl Tryz.underlying31 KF.sz_77 rfl rfl rfl (fun _ => hi') (fun _ => rfl)) ?_
          refine Qk rfl rfl rfl (fun _ => Qh rfl rfl KF.fld_77_0 rfl) ?_
          refine Qz rfl rfl rfl (Qw (v := .int .u8 (x0 : Int)) (i * 7 + 0) rfl rfl Tryz.underlying5 rfl (hSr _) rfl (fun _ => v0)) ?_
          refine Qk rfl rfl rfl (fun _ => QT_convN rfl rfl Tryz.underlying5 Tryz.underlying70 rfl (IntWalk.u32_in _ ⟨by omega, by omega⟩)) ?_
          refine Qz rfl rfl rfl (Qy (cs := L.cells) (out := L.cells) 0 rfl rfl Tryz.underlying27 rfl KF.sz_27 (hLr _) rfl (fun _ => Nat.le_refl 18) (fun _ => rfl)) ?_
          refine TV_cq rfl rfl rfl rfl rfl KF.cal_107 rfl (fun _ => hflag _) (.drop (by kernel_rfl) (.keep (by kernel_rfl) rfl (by first | exact Qw (v := .int .u8 (x0 : Int)) (i * 7 + 0) rfl rfl Tryz.underlying5 rfl (hSr _) rfl (fun _ => v0)) (.nil))) ?_
          refine TV_e rfl rfl rfl rfl (rfl) (ET_call rfl KF.cal_115 rfl (rput_spec w0 _ K mb [] x0 FL hK (by omega) ⟨by omega, by omega⟩ (by decide))) ?_
          rintro _ _ ⟨K1, rfl, hK1, rfl⟩
          refine ⟨_, .keep (by kernel_rfl) rfl (by first | exact Qw (v := .int .u8 (x0 : Int)) (i * 7 + 0) rfl rfl Tryz.underlying5 rfl (hSr _) rfl (fun _ => v0)) (.nil), ?_⟩
          refine TV_end (Qb (Qe ?_))
          rw [putL_okX (by omega) f0 (by show 0 + FL ≤ 524288; omega), show ([] : List Bool) = eR L r 0 from rfl, ← s0] at hK1
          refine TC_draw [(0, 0), (1, 0), (2, 0), (3, 0), (4, 0), (5, 0), (6, 0), (7, 0), (8, 0), (9, 1)] KF.mixed (by kernel_rfl) (St.calm _ _) ?_
          refine Qk rfl rfl rfl (fun _ => Qc rfl rfl rfl) ?_
          refine Qk rfl rfl rfl (fun _ => Qc rfl rfl rfl) ?_
          refine Qk rfl rfl rfl (fun _ => Qc rfl rfl rfl) ?_
          refine Qk rfl rfl rfl (fun _ => QT_indexG i rfl rfl Tryz.underlying31 KF.sz_77 rfl rfl rfl (fun _ => hi') (fun _ => rfl)) ?_
          refine Qk rfl rfl rfl (fun _ => Qh rfl rfl KF.fld_77_1 rfl) ?_
          refine Qk rfl rfl rfl (fun _ => Qh rfl rfl KF.fld_72_0 rfl) ?_
          refine Qz rfl rfl rfl (Qw (v := .int .u32 (x1 : Int)) (i * 7 + 1) rfl rfl Tryz.underlying70 rfl (hSr _) rfl (fun _ => v1)) ?_
          refine Qk rfl rfl rfl (fun _ => Qh rfl rfl KF.fld_27_1 rfl) ?_
          refine Qz rfl rfl rfl (Qw (v := .int .i64 (CO : Int)) 1 rfl rfl Tryz.underlying3 rfl (hLr _) rfl (fun _ => lco)) ?_
          refine TV_e rfl rfl rfl rfl (rfl) (ET_call rfl KF.cal_115 rfl (rput_spec w0 _ K1 mb _ x1 CO hK1 l1 ⟨by omega, by omega⟩ (by omega))) ?_
          rintro _ _ ⟨K2, rfl, hK2, rfl⟩
          refine ⟨_, .drop (by kernel_rfl) (.drop (by kernel_rfl) (.nil)), ?_⟩
          refine TV_end (Qb (Qe ?_))
          rw [putL_okX (by omega) f1 (by omega), ← s1] at hK2
          refine TC_draw [(0, 0), (1, 0), (2, 0), (3, 0), (4, 0), (5, 0), (6, 0), (7, 0), (8, 0), (9, 1)] KF.mixed (by kernel_rfl) (St.calm _ _) ?_
          refine Qk rfl rfl rfl (fun _ => Qc rfl rfl rfl) ?_
          refine Qk rfl rfl rfl (fun _ => Qc rfl rfl rfl) ?_
          refine Qk rfl rfl rfl (fun _ => Qc rfl rfl rfl) ?_
          refine Qk rfl rfl rfl (fun _ => QT_indexG i rfl rfl Tryz.underlying31 KF.sz_77 rfl rfl rfl (fun _ => hi') (fun _ => rfl)) ?_
          refine Qk rfl rfl rfl (fun _ => Qh rfl rfl KF.fld_77_1 rfl) ?_
          refine Qk rfl rfl rfl (fun _ => Qh rfl rfl KF.fld_72_1 rfl) ?_
          refine Qz rfl rfl rfl (Qw (v := .int .u32 (x2 : Int)) (i * 7 + 2) rfl rfl Tryz.underlying70 rfl (hSr _) rfl (fun _ => v2)) ?_
          refine Qk rfl rfl rfl (fun _ => Qh rfl rfl KF.fld_27_1 rfl) ?_
          refine Qz rfl rfl rfl (Qw (v := .int .i64 (CO : Int)) 1 rfl rfl Tryz.underlying3 rfl (hLr _) rfl (fun _ => lco)) ?_
          refine TV_e rfl rfl rfl rfl (rfl) (ET_call rfl KF.cal_115 rfl (rput_spec w0 _ K2 mb _ x2 CO hK2 l2 ⟨by omega, by omega⟩ (by omega))) ?_
          rintro _ _ ⟨K3, rfl, hK3, rfl⟩
          refine ⟨_, .drop (by kernel_rfl) (.drop (by kernel_rfl) (.nil)), ?_⟩
          refine TV_end (Qb (Qe (Qe ?_)))
          rw [putL_okX (by omega) f2 (by omega), ← s2] at hK3
          refine Qg ?_
          refine Qa rfl rfl (Qd rfl rfl rfl) ?_
          refine Qf (Qb (Qr ?_))
          refine TC_loop (γ := { t : Nat × Heap // t.1 ≤ CS ∧ RefAt mb (eR L r (3 + t.1)) t.2 }) (fun u => [(1, true, .slice (some ⟨sb, so, none⟩) rs.length cap), (2, true, .pointer (some ⟨b2, 0, none⟩)), (9, true, bv), (10, true, .int .i64 (i : Int)), (11, true, .pointer (some ⟨mb, 0, none⟩)), (12, true, .int .i64 (u.1.1 : Int))]) (fun u => St w0 (u.1.2 ++ ((b2, 27, L.cells) :: (H ++ η)))) (fun u => CS - u.1.1) ⟨(0, K3), Nat.zero_le _, hK3⟩ ⟨rfl, rfl, rfl, rfl, rfl, rfl, trivial⟩ (fun _ h => h) ?_
          rintro ⟨⟨c, K4⟩, hcc, hK4⟩
          dsimp only at hcc hK4 ⊢
          refine Qe (Qe (Qg ?_))
          refine Qa rfl rfl (Qc rfl rfl rfl) ?_
          refine Qa rfl rfl (Qh rfl rfl KF.fld_27_4 rfl) ?_
          refine Qa rfl rfl (Qw (v := .int .i64 (CS : Int)) 4 rfl rfl Tryz.underlying3 rfl (hLr _) rfl (fun _ => lcs)) ?_
          refine Qa rfl rfl (QT_lss rfl rfl rfl rfl) ?_
          refine Qf (Qb ?_)
          refine Qm rfl (fun h129 => ?_) (fun h129 => ?_)
          ·
            have hcC : c < CS := by omega
            obtain ⟨x, hx⟩ := get7 hrF.len (show 3 + c < 7 by omega)
            have hkm : rkM (3 + c) = 65536 := by unfold rkM; rw [if_neg (by omega), if_neg (by omega)]
            have lx : x < 65536 := by rw [← hkm]; exact hrF.lt hx
            have vx : (flatR rs)[i * 7 + (3 + c)]? = some (.int .u16 (x : Int)) := by
              rw [hel (by omega)]
              have := rvV_at (xs := r) (p := 3 + c) (by omega) hx
              rwa [show rkK (3 + c) = .u16 by unfold rkK; rw [if_neg (by omega), if_neg (by omega)]] at this
            have hwc : wdR L (3 + c) = CM := by rw [hw3, if_pos hcC]
            have fx : x < 2 ^ CM := by rw [← hwc]; exact fitB_atX hrfit (wR_at (by omega)) hx
            have sx := eR_step (L := L) hrF.len hx
            rw [hwc] at sx
            have qx := heL (3 + c)
            refine Qt (Qb (Qe (Qr ?_)))
            refine TC_draw [(0, 0), (1, 0), (2, 0), (3, 0), (4, 0), (5, 0), (6, 0), (7, 0), (8, 0), (9, 0), (10, 0), (11, 1)] KF.mixed (by kernel_rfl) (St.calm _ _) ?_
            refine Qk rfl rfl rfl (fun _ => Qc rfl rfl rfl) ?_
            refine Qk rfl rfl rfl (fun _ => Qc rfl rfl rfl) ?_
            refine Qk rfl rfl rfl (fun _ => Qc rfl rfl rfl) ?_
            refine Qk rfl rfl rfl (fun _ => Qc rfl rfl rfl) ?_
            refine Qk rfl rfl rfl (fun _ => QT_indexG i rfl rfl Tryz.underlying31 KF.sz_77 rfl rfl rfl (fun _ => hi') (fun _ => rfl)) ?_
            refine Qk rfl rfl rfl (fun _ => Qh rfl rfl KF.fld_77_2 rfl) ?_
            refine Qk rfl rfl rfl (fun _ => QT_indexArr c rfl rfl Tryz.underlying75 KF.sz_73 rfl rfl rfl (fun _ => by omega)) ?_
            refine Qz rfl rfl rfl (Qw (v := .int .u16 (x : Int)) (i * 7 + (3 + c)) rfl rfl Tryz.underlying73 rfl (hSr _) rfl (fun _ => vx)) ?_
            refine Qk rfl rfl rfl (fun _ => QT_convN rfl rfl Tryz.underlying73 Tryz.underlying70 rfl (IntWalk.u32_in _ ⟨by omega, by omega⟩)) ?_
            refine Qk rfl rfl rfl (fun _ => Qh rfl rfl KF.fld_27_2 rfl) ?_
            refine Qz rfl rfl rfl (Qw (v := .int .i64 (CM : Int)) 2 rfl rfl Tryz.underlying3 rfl (hLr _) rfl (fun _ => lcm)) ?_
            refine TV_e rfl rfl rfl rfl (rfl) (ET_call rfl KF.cal_115 rfl (rput_spec w0 _ K4 mb _ x CM hK4 (by omega) ⟨by omega, by omega⟩ (by omega))) ?_
            rintro _ _ ⟨K5, rfl, hK5, rfl⟩
            refine ⟨_, .drop (by kernel_rfl) (.keep (by kernel_rfl) rfl (by first | exact Qw (v := .int .u16 (x : Int)) (i * 7 + (3 + c)) rfl rfl Tryz.underlying73 rfl (hSr _) rfl (fun _ => vx)) (.nil)), ?_⟩
            refine TV_end ?_
            refine Qo ?_
            refine Qb ?_
            rw [putL_okX (by omega) fx (by omega), ← sx] at hK5
            refine Qg ?_
            refine Qa rfl rfl (Qc rfl rfl rfl) ?_
            refine Qa rfl rfl (Zb rfl rfl rfl rfl (fun _ => ⟨by omega, by omega⟩)) ?_
            refine Qa rfl rfl (Qd rfl rfl rfl) ?_
            refine Qf ?_
            exact TX_round ⟨(c + 1, K5), hcC, hK5⟩ (by show CS - (c + 1) < CS - c; omega) ⟨rfl, rfl, rfl, rfl, rfl, rfl, trivial⟩ (fun _ h => h)
          ·
            refine Zd ?_
            refine Qi (Qi ?_)
            refine Qp ?_
            refine Qb ?_
            obtain rfl : c = CS := by omega
            have k3 := eR_skip (L := L) hrF.len (7 - (3 + c)) (3 + c) (by omega) fun p h1 h2 => by
              have := hw3 (p - 3)
              rw [show 3 + (p - 3) = p by omega, if_neg (by omega)] at this
              exact this
            rw [show 3 + c + (7 - (3 + c)) = 7 by omega, eR_all hrF.len] at k3
            rw [← k3] at hK4
            have hl5 : (encR L r).length ≤ 136 := by rw [← eR_all hrF.len]; exact heL 7
            have hbx := RefAt.bytesX (w0 := w0) ((b2, 27, L.cells) :: (H ++ η)) hK4 (by omega)
            rw [show packB (encR L r) = packR L r from rfl] at hbx
            refine Qg ?_
            refine Qa rfl rfl (Qc rfl rfl rfl) ?_
            refine Qa rfl rfl (Qc rfl rfl rfl) ?_
            refine TL_e rfl rfl rfl (rfl) (ET_call rfl KF.cal_116 rfl (hbx)) ?_
            rintro nv _ ⟨H2, hF2, rfl⟩
            refine TL_e rfl rfl rfl (rfl) (ET_appendL (η := η) (L := H2 ++ [(b2, 27, L.cells)]) rfl Tryz.underlying28 el_Byte rfl rfl hF (fun w h => h.cnt fun p => by simp only [List.countP_append, List.countP_cons, List.countP_nil]; omega) (hF2.within fun p => by simp only [List.countP_append]; omega) (byV_ints (packB_lt _)).oneCell (by omega) (by omega)) ?_
            rintro bv2 _ ⟨H', hF', rfl⟩
            refine Qa rfl rfl (Qd rfl rfl rfl) ?_
            refine Qf ?_
            refine Qo ?_
            refine Qb (Qg ?_)
            refine Qa rfl rfl (Qc rfl rfl rfl) ?_
            refine Qa rfl rfl (Zb rfl rfl rfl rfl (fun _ => ⟨by omega, by omega⟩)) ?_
            refine Qa rfl rfl (Qd rfl rfl rfl) ?_
            refine Qf ?_
            refine TX_round ⟨(i + 1, bv2, H'), hi', ?_⟩ (by show rs.length - (i + 1) < rs.length - i; omega) ⟨rfl, rfl, rfl, rfl, trivial⟩ (fun w h => h.cnt fun p => by simp only [List.countP_append, List.countP_cons, List.countP_nil]; omega)
            have e : bytesR L (rs.take (i + 1)) = bytesR L (rs.take i) ++ packR L r := by rw [htk, bytesR_append]; simp [bytesR]
            show Frag _ 1 _ (bytesR L (rs.take (i + 1))).length (byV (bytesR L (rs.take (i + 1)))) H'
            rw [e, List.length_append, byV_append]
            exact hF'
        ·
          refine Zd ?_
          refine Qi (Qi ?_)
          refine Qp ?_
          refine Qb (Qe ?_)
          obtain rfl : i = rs.length := by omega
          rw [List.take_of_length_le (Nat.le_refl _)] at hF
          refine Qg ?_
          refine Qa rfl rfl (Qc rfl rfl rfl) ?_
          refine Qa rfl rfl (Qd rfl rfl rfl) ?_
          refine Qa rfl rfl (Qd rfl rfl rfl) ?_
          refine Qf (Qb ?_)
          refine Qu ?_
          exact Qs (.inl rfl) (res2 rfl rfl rfl) ⟨_, ⟨_, H, by rw [eP], by rw [eO]; exact hF, rfl⟩, fun _ h => h.tail⟩
end Go.Proofs.YtjdaglmkljbfkaaGreatDoor
namespace Go.Proofs.YtjdaglmkljbfkaaGreatDoor
open Go Go.Gx Go.RowKit
set_option maxRecDepth 100000
theorem rcf_chk {r : List Nat} (hl : r.length = 7) (h : ∀ p, p < 7 → r.getD p 0 < rkM p) : RcF r := ⟨hl, fun {p x} hx => by
 have hp : p < 7 := by rw [← hl]; exact (List.getElem?_eq_some_iff.1 hx).1
 have := h p hp
 rw [List.getD_eq_getElem?_getD, hx] at this
 exact this⟩
end Go.Proofs.YtjdaglmkljbfkaaGreatDoor
namespace Go.Proofs.YtjdaglmkljbfkaaGreatDoor
end Go.Proofs.YtjdaglmkljbfkaaGreatDoor
namespace Go.Proofs.YtjdaglmkljbfkaaGreatDoor
open Go Go.Gx Go.RowKit
set_option maxRecDepth 100000
theorem twinFragRR {e b n : Nat} {xs mk : List Value} (hx : xs.length = n * 7) (hm : mk.length = 7) (hn : n ≤ 1000000) : Frag e 7 (.slice (some ⟨b, 0, none⟩) n (n + 3)) n xs [(b, e, xs ++ (mk ++ (mk ++ mk)))] :=
 ⟨hx, .inr ⟨b, n + 3, mk ++ (mk ++ mk), rfl, ⟨by omega, by omega⟩, by simp only [List.length_append, hx, hm]; omega, rfl⟩⟩
theorem errRG_zero {L : Lay} {bs : List Nat} (h : errRG L bs = 0) : (okB L = true ∧ L.ty ≤ 5) ∧ bs.length ≤ 65536 ∧ bs.length % szR L = 0 ∧ outRG L bs = recsB L bs (bs.length / szR L) := by
  have h0 := h
  unfold errRG at h
  split at h
  · rename_i hc
    split at h
    · exact absurd h (by decide)
    · split at h
      · exact ⟨hc, by omega, by assumption, by unfold outRG; rw [if_pos h0]⟩
      · exact absurd h (by decide)
  · exact absurd h (by decide)
theorem outRG_rcf {L : Lay} {bs : List Nat} : ∀ r ∈ outRG L bs, RcF r := by
 intro r hr
 unfold outRG at hr
 split at hr
 · exact recsB_rcf r hr
 · exact absurd hr List.not_mem_nil
theorem outRG_len (L : Lay) (bs : List Nat) : (outRG L bs).length ≤ bs.length := by
 unfold outRG
 split
 · rw [recsB_len]; exact Nat.div_le_self _ _
 · exact Nat.zero_le _
theorem outRP_lt (L : Lay) (rs : List (List Nat)) : ∀ c ∈ outRP L rs, c < 256 := by
 intro c hc
 unfold outRP at hc
 split at hc
 · exact bytesR_lt L rs c hc
 · exact absurd hc List.not_mem_nil
theorem outRP_len (L : Lay) (rs : List (List Nat)) : (outRP L rs).length ≤ 65536 := by
  unfold outRP
  split
  · rename_i h
    unfold errRP at h
    split at h
    · split at h
      · split at h
        · exact absurd h (by decide)
        · omega
      · exact absurd h (by decide)
    · exact absurd h (by decide)
  · exact Nat.zero_le _
end Go.Proofs.YtjdaglmkljbfkaaGreatDoor
namespace Go.Proofs.YtjdaglmkljbfkaaGreatDoor
open Go Go.Gx Go.RowKit
set_option maxRecDepth 100000
end Go.Proofs.YtjdaglmkljbfkaaGreatDoor
namespace Go.Proofs.YtjdaglmkljbfkaaGreatDoor
open Go Go.Gx Go.RowKit
set_option maxRecDepth 100000
end Go.Proofs.YtjdaglmkljbfkaaGreatDoor
namespace Go.Proofs.YtjdaglmkljbfkaaGreatDoor
open Go Go.Gx Go.RowKit
set_option maxRecDepth 100000
end Go.Proofs.YtjdaglmkljbfkaaGreatDoor
namespace Go.Proofs.YtjdaglmkljbfkaaGreatDoor
open Go Go.Gx Go.RowKit
set_option maxRecDepth 100000
theorem rget0_long (w0 : Base) (η : Heap) (hG : Sets w0) (L : Lay) (sv : Value) (bs : List Nat) (hs : SlA (St w0 η) sv 1 bs.length (byV bs)) (h0 : 65536 < bs.length) :
  CallsT Tryz.prog 129 [L.val, sv] (St w0 η) fun v A' => ∃ rv H, v = .tuple #[rv, .int .i64 (errRG L bs)] ∧ Frag 77 7 rv (outRG L bs).length (flatR (outRG L bs)) H ∧ A' = St w0 (H ++ η) := by
 obtain ⟨hbl, ad, cap, sb, so, rfl, hcap, had, hrd⟩ := hs.some
 refine CallsT.bodyM Tryz.func129 rfl rfl ?_
 simp only [Tryz.ntmps129, slotsOf, Nat.reduceAdd]
 refine Qe (Qg ?_)
 refine TL_e rfl rfl rfl (rfl) (ET_box rfl rfl) ?_
 rintro _ _ ⟨b2, rfl, rfl⟩
 refine Qa rfl rfl (Qd rfl rfl rfl) ?_
 refine Qa rfl rfl (Qd rfl rfl rfl) ?_
 refine Qf (Qb (Qe ?_))
 refine TC_A (St w0 ((b2, 27, L.cells) :: η)) (fun _ h => h) ?_
 refine Qg ?_
 refine Qa rfl rfl (Ql 0 rfl rfl Tryz.underlying27 rfl rfl rfl KF.sz_27) ?_
 refine TL_cq rfl rfl rfl rfl KF.cal_136 rfl (fun _ => size_spec w0 _ hG L 0 (by decide)) ?_
 refine Qa rfl rfl (Qd rfl rfl rfl) ?_
 refine Qf (Qb (Qe (Qe (Qg ?_))))
 refine Qa rfl rfl (Ql 0 rfl rfl Tryz.underlying27 rfl rfl rfl KF.sz_27) ?_
 refine TL_cq rfl rfl rfl rfl KF.cal_137 rfl (fun _ => rcheck0_spec w0 _ hG L) ?_
 refine Qa rfl rfl (Qd rfl rfl rfl) ?_
 refine Qf (Qb (Qr (Qe (Qg ?_))))
 refine Qa rfl rfl (Qc rfl rfl rfl) ?_
 refine Qa rfl rfl (QT_neq rfl rfl rfl rfl) ?_
 refine Qa rfl rfl (Qd rfl rfl rfl) ?_
 refine Qf (Qb ?_)
 refine Qm rfl (fun h21 => ?_) (fun h21 => ?_)
 ·
  refine Qe (Qg ?_)
  refine Qa rfl rfl (Qc rfl rfl rfl) ?_
  refine Qa rfl rfl (Qd rfl rfl rfl) ?_
  refine Qa rfl rfl (Qd rfl rfl rfl) ?_
  refine Qf (Qb ?_)
  refine Qu ?_
  refine Zc ?_
  refine Qn ?_
  have hne : ¬ (okB L = true ∧ L.ty ≤ 5) := fun hc => h21 (by unfold errCR; rw [if_pos hc])
  have eP : errRG L bs = 4 := by unfold errRG; rw [if_neg hne]
  have eC : errCR L = 4 := by unfold errCR; rw [if_neg hne]
  exact TX_retM (.inl rfl) (res2 rfl rfl rfl) ⟨_, ⟨_, [], by rw [eP, eC], fragNoneRG eP (by decide), rfl⟩, fun _ h => h.tail⟩
 ·
  refine Qe (Qg ?_)
  refine Qa rfl rfl (Qc rfl rfl rfl) ?_
  refine Qa rfl rfl (Za rfl rfl Tryz.underlying28 rfl) ?_
  refine Qa rfl rfl (QT_gtr rfl rfl rfl rfl) ?_
  refine Qa rfl rfl (Qd rfl rfl rfl) ?_
  refine Qf (Qb ?_)
  refine TC_cond rfl (fun _ => ?_) (fun h => absurd (h.symm.trans (decide_eq_true (by omega))) (by decide))
  refine Qe (Qg ?_)
  refine Qa rfl rfl (Qd rfl rfl rfl) ?_
  refine Qa rfl rfl (Qd rfl rfl rfl) ?_
  refine Qf (Qb ?_)
  refine Qu ?_
  refine Zc ?_
  refine Qn ?_
  have hc := errCR_ok (Classical.not_not.1 h21)
  have eP : errRG L bs = 3 := by unfold errRG; rw [if_pos hc, if_pos (by omega)]
  exact TX_retM (.inl rfl) (res2 rfl rfl rfl) ⟨_, ⟨_, [], by rw [eP], fragNoneRG eP (by decide), rfl⟩, fun _ h => h.tail⟩
theorem rget0_any (w0 : Base) (η : Heap) (hG : Sets w0) (L : Lay) (sv : Value) (bs : List Nat) (hs : SlA (St w0 η) sv 1 bs.length (byV bs)) (hb : ∀ c ∈ bs, c < 256) :
  CallsT Tryz.prog 129 [L.val, sv] (St w0 η) fun v A' => ∃ rv H, v = .tuple #[rv, .int .i64 (errRG L bs)] ∧ Frag 77 7 rv (outRG L bs).length (flatR (outRG L bs)) H ∧ A' = St w0 (H ++ η) := by
 by_cases h : 65536 < bs.length
 · exact rget0_long w0 η hG L sv bs hs h
 · exact rget0_spec w0 η hG L sv bs hs hb (by omega)
end Go.Proofs.YtjdaglmkljbfkaaGreatDoor
namespace Go.Proofs.YtjdaglmkljbfkaaGreatDoor
open Go Go.Gx Go.RowKit
set_option maxRecDepth 100000
/-- What is known of a hand: what it makes of a number of so many bits, and of its state. -/
structure HandOk (w0 : Base) {S : Type} (t : TypeId) (r : Value) (f : FuncId) (go : S → Nat → Nat → Nat × S) (sz : S → Nat) (Rep : S → Heap → Prop) (Ok : Heap → Prop) : Prop where
 cal : CalleeOk Tryz.prog f
 met : ∀ w, (method (Tryz.prog.types.size + Made.depth) t r "gouache/sheets.goes").run Tryz.prog w = .ok (f, r) w
 nil : ∀ w, (nilAhead (Tryz.prog.types.size + Made.depth) t r "gouache/sheets.goes").run Tryz.prog w = .ok (some false) w
 lt : ∀ s v w, v < 4294967296 → (go s v w).1 < 4294967296
 grow : ∀ s v w, sz (go s v w).2 ≤ sz s + w
 more : ∀ η b, Ok η → Ok (b :: η)
 goes : ∀ (η K : Heap) (s : S) (pb : Nat) (tt : TypeId) (cells : List Value) (off v w : Nat), Ok η → Rep s K → sz s ≤ 100000 → cells[off]? = some (.int .u32 (v : Int)) → v < 4294967296 → w ≤ 32 →
  CallsT Tryz.prog f [r, .pointer (some ⟨pb, off, none⟩), .int .i64 (w : Int)] (St w0 ((pb, tt, cells) :: (K ++ η))) fun z A' => z = .tuple #[] ∧ ∃ K', Rep (go s v w).2 K' ∧ A' = St w0 ((pb, tt, setAt cells off [.int .u32 ((go s v w).1 : Int)]) :: (K' ++ η))
/-- with others' memory between -/
theorem HandOk.deep {w0 : Base} {S : Type} {t : TypeId} {r : Value} {f : FuncId} {go : S → Nat → Nat → Nat × S} {sz : S → Nat} {Rep : S → Heap → Prop} {Ok : Heap → Prop} (h : HandOk w0 t r f go sz Rep Ok) (X η K : Heap) (s : S) (pb : Nat) (tt : TypeId) (cells : List Value) (off v w : Nat) (hO : Ok η) (hK : Rep s K) (hs : sz s ≤ 100000) (hc : cells[off]? = some (.int .u32 (v : Int))) (hv : v < 4294967296) (hw : w ≤ 32) :
    CallsT Tryz.prog f [r, .pointer (some ⟨pb, off, none⟩), .int .i64 (w : Int)] (St w0 ((pb, tt, cells) :: (X ++ (K ++ η)))) fun z A' => z = .tuple #[] ∧ ∃ K', Rep (go s v w).2 K' ∧ A' = St w0 ((pb, tt, setAt cells off [.int .u32 ((go s v w).1 : Int)]) :: (X ++ (K' ++ η))) := by
  have hO' : Ok (X ++ η) := by
    induction X with
    | nil => exact hO
    | cons b X ih => exact h.more _ b ih
  have := h.goes (X ++ η) K s pb tt cells off v w hO' hK hs hc hv hw
  refine fun w hA => (this.mono (R' := fun z A' => z = .tuple #[] ∧ ∃ K', Rep (go s v _).2 K' ∧ A' = St w0 ((pb, tt, setAt cells off [.int .u32 ((go s v _).1 : Int)]) :: (X ++ (K' ++ η)))) ?_) w (hA.cnt fun p => by simp only [List.countP_append, List.countP_cons]; omega)
  rintro z A' ⟨hz, K', hK', rfl⟩
  exact ⟨_, ⟨hz, K', hK', rfl⟩, fun w h => h.cnt fun p => by simp only [List.countP_append, List.countP_cons]; omega⟩
def RepL (lb rb : Nat) (s : List Bool × Int) (K : Heap) : Prop := ∃ K0, RowAt rb s.1 K0 ∧ K = (lb, 267, [.pointer (some ⟨rb, 0, none⟩), .int .i64 s.2]) :: K0
theorem set_same {l : List Value} {i : Nat} {v : Value} (h : l[i]? = some v) : l.set i v = l := by
 apply List.ext_getElem?
 intro k
 rw [List.getElem?_set]
 by_cases e : i = k
 · subst e; rw [if_pos rfl, if_pos (List.getElem?_eq_some_iff.1 h).1]; exact h.symm
 · rw [if_neg e]
theorem cells_lt {cells : List Value} {off : Nat} {v : Value} (h : cells[off]? = some v) : Nat.ble (off + 1) cells.length = true := Nat.ble_eq_true_of_le (List.getElem?_eq_some_iff.1 h).1
theorem met_L : ∃ i m, Tryz.prog.info? 265 = some i ∧ i.methods.find? (·.name == "gouache/sheets.goes") = some m ∧ m.path = #[] ∧ m.func = some (184, true) := method_of (by kernel_rfl)
theorem layer_goes (w0 : Base) (η K0 : Heap) (lb rb : Nat) (s : List Bool × Int) (pb : Nat) (tt : TypeId) (cells : List Value) (off v w : Nat) (hK : RowAt rb s.1 K0) (hs : s.1.length ≤ 100000) (hc : cells[off]? = some (.int .u32 (v : Int))) (hv : v < 4294967296) (hw : w ≤ 32) :
  CallsT Tryz.prog 184 [.pointer (some ⟨lb, 0, none⟩), .pointer (some ⟨pb, off, none⟩), .int .i64 (w : Int)] (St w0 ((pb, tt, cells) :: (lb, 267, [.pointer (some ⟨rb, 0, none⟩), .int .i64 s.2]) :: (K0 ++ η))) fun z A' => z = .tuple #[] ∧ ∃ K', RowAt rb (goL s v w).2.1 K' ∧ A' = St w0 ((pb, tt, cells) :: (lb, 267, [.pointer (some ⟨rb, 0, none⟩), .int .i64 (goL s v w).2.2]) :: (K' ++ η)) := by
 obtain ⟨l, e⟩ := s
 have hput : CallsT Tryz.prog 142 [.pointer (some ⟨rb, 0, none⟩), .int .u32 (v : Int), .int .i64 (w : Int)] (St w0 ((pb, tt, cells) :: (lb, 267, [.pointer (some ⟨rb, 0, none⟩), .int .i64 e]) :: (K0 ++ η))) fun r A' => ∃ K', r = .int .i64 (putE l.length v w) ∧ RowAt rb (putL l v w) K' ∧ A' = St w0 ((pb, tt, cells) :: (lb, 267, [.pointer (some ⟨rb, 0, none⟩), .int .i64 e]) :: (K' ++ η)) := by
  have h := put_spec w0 ((pb, tt, cells) :: (lb, 267, [.pointer (some ⟨rb, 0, none⟩), .int .i64 e]) :: η) K0 rb l v w hK hv ⟨by omega, by omega⟩ (Nat.le_trans hs (by decide))
  refine fun w hA => (h.mono ?_) w (hA.cnt fun p => by simp only [List.countP_append, List.countP_cons]; omega)
  rintro r A' ⟨K', hr, hK', rfl⟩
  exact ⟨_, ⟨K', hr, hK', rfl⟩, fun w h => h.cnt fun p => by simp only [List.countP_append, List.countP_cons]; omega⟩
 refine CallsT.body Tryz.func184 rfl rfl ?_
 simp only [Tryz.ntmps184, slotsOf, Nat.reduceAdd]
 refine Qe (Qg ?_)
 refine Qa rfl rfl (Qc rfl rfl rfl) ?_
 refine Qa rfl rfl (Qv rfl rfl rfl) ?_
 refine Qa rfl rfl (Qh rfl rfl KF.fld_267_1 rfl) ?_
 refine Qa rfl rfl (Qj 1 rfl rfl Tryz.underlying35 rfl rfl rfl (fun _ => rfl)) ?_
 refine Qa rfl rfl (QT_eql rfl rfl rfl rfl) ?_
 refine Qf (Qb ?_)
 refine Qm rfl (fun h10 => ?_) (fun h10 => ?_)
 ·
  have eg : goL (l, e) v w = (v, (putL l v w, putE l.length v w)) := by unfold goL; rw [if_pos h10]
  rw [eg]
  refine TC_draw [(0, 0), (1, 0), (2, 0), (3, 0), (4, 0), (5, 0), (6, 0), (7, 0), (8, 0), (9, 1), (10, 0), (11, 0), (12, 1)] KF.mixed (by kernel_rfl) (St.calm _ _) ?_
  refine Qk rfl rfl rfl (fun _ => Qc rfl rfl rfl) ?_
  refine Qk rfl rfl rfl (fun _ => Qc rfl rfl rfl) ?_
  refine Qk rfl rfl rfl (fun _ => Qv rfl rfl rfl) ?_
  refine Qk rfl rfl rfl (fun _ => Qh rfl rfl KF.fld_267_0 rfl) ?_
  refine Qz rfl rfl rfl (Qj 1 rfl rfl Tryz.underlying258 rfl rfl rfl (fun _ => rfl)) ?_
  refine Qk rfl rfl rfl (fun _ => Qc rfl rfl rfl) ?_
  refine Qk rfl rfl rfl (fun _ => Qv rfl rfl rfl) ?_
  refine Qz rfl rfl rfl (Qj 0 rfl rfl Tryz.underlying70 rfl rfl rfl (fun _ => hc)) ?_
  refine Qk rfl rfl rfl (fun _ => Qc rfl rfl rfl) ?_
  refine TV_e rfl rfl rfl rfl (rfl) (ET_call rfl KF.cal_142 rfl (hput)) ?_
  rintro _ _ ⟨K', rfl, hK', rfl⟩
  refine ⟨_, .drop (by kernel_rfl) (.drop (by kernel_rfl) (.nil)), ?_⟩
  refine Qk rfl rfl rfl (fun _ => Qv rfl rfl rfl) ?_
  refine Qk rfl rfl rfl (fun _ => Qh rfl rfl KF.fld_267_1 rfl) ?_
  refine TV_e0 rfl rfl rfl (rfl) (ET_store 1 rfl rfl rfl rfl KF.sz_35 rfl rfl rfl) ?_
  rintro _ _ ⟨rfl, rfl⟩
  refine ⟨_, .nil, ?_⟩
  refine TV_end ?_
  exact Qs (.inr rfl) (res0 rfl) ⟨_, ⟨rfl, K', hK', rfl⟩, fun _ h => h⟩
 ·
  refine Qt ?_
  have eg : goL (l, e) v w = (v, (l, e)) := by unfold goL; rw [if_neg h10]
  rw [eg]
  exact Qs (.inr rfl) (res0 rfl) ⟨_, ⟨rfl, K0, hK, rfl⟩, fun _ h => h⟩
theorem putL_grow (l : List Bool) (v w : Nat) : (putL l v w).length ≤ l.length + w := by
 unfold putL
 split
 · rw [List.length_append, bitsN_len, Int.toNat_natCast]; exact Nat.le_refl _
 · omega
theorem layer_ok (w0 : Base) (lb rb : Nat) : HandOk w0 265 (.pointer (some ⟨lb, 0, none⟩)) 184 goL (·.1.length) (RepL lb rb) (fun _ => True) where
 cal := KF.cal_184
 met := by
  obtain ⟨i, m, h1, h2, h3, h4⟩ := met_L
  exact method_ptr h1 h2 h3 h4 Tryz.underlying265
 nil := by
  obtain ⟨i, m, h1, h2, h3, h4⟩ := met_L
  exact nilAhead_ptr h1 h2 h3 h4
 lt := fun s v w hv => hv
 grow := fun s v w => by unfold goL; dsimp only; split; exact putL_grow ..; exact Nat.le_add_right ..
 more := fun _ _ _ => trivial
 goes := fun η K s pb tt cells off v w _ hK hs hc hv hw => by
  obtain ⟨K0, hK0, rfl⟩ := hK
  have hset : setAt cells off [.int .u32 (v : Int)] = cells := by
   simp only [setAt]
   rw [set_same hc]
  refine (layer_goes w0 η K0 lb rb s pb tt cells off v w hK0 hs hc hv hw).mono fun z A' ⟨hz, K', hK', hA⟩ => ⟨A', ⟨hz, _, ⟨K', hK', rfl⟩, ?_⟩, fun _ h => h⟩
  rw [hA, show (goL s v w).1 = v from rfl, hset]; rfl
end Go.Proofs.YtjdaglmkljbfkaaGreatDoor
namespace Go.Proofs.YtjdaglmkljbfkaaGreatDoor
open Go Go.Gx Go.RowKit
set_option maxRecDepth 100000
def skK (p : Nat) : IntKind := if p = 0 then .u8 else if p < 33 then .u32 else .u16
theorem sheetK_at {p : Nat} (h : p < 49) : sheetK[p]? = some (skK p) := (show ∀ p : Fin 49, sheetK[p.1]? = some (skK p.1) by decide) ⟨p, h⟩
theorem sheetK_len : sheetK.length = 49 := by decide
def shV (xs : List Nat) : List Value := List.zipWith (fun (k : IntKind) (x : Nat) => Value.int k (x : Int)) sheetK xs
theorem shV_len {xs : List Nat} (h : xs.length = 49) : (shV xs).length = 49 := by rw [shV, List.length_zipWith, sheetK_len, h]; rfl
theorem shV_at {xs : List Nat} {p x : Nat} (hp : p < 49) (h : xs[p]? = some x) : (shV xs)[p]? = some (.int (skK p) (x : Int)) := by
 rw [shV, List.getElem?_zipWith, sheetK_at hp, h]
theorem shV_set {xs : List Nat} {p v : Nat} (hp : p < 49) : (shV xs).set p (.int (skK p) (v : Int)) = shV (xs.set p v) := by
  apply List.ext_getElem?
  intro k
  rw [List.getElem?_set]
  by_cases e : p = k
  · subst e
    rw [if_pos rfl]
    by_cases hl : p < xs.length
    · rw [if_pos (by rw [shV, List.length_zipWith, sheetK_len]; omega), shV_at (x := v) hp (by rw [List.getElem?_set, if_pos rfl, if_pos hl])]
    · rw [if_neg (by rw [shV, List.length_zipWith]; omega), shV, List.getElem?_zipWith, List.getElem?_eq_none (l := xs.set p v) (by rw [List.length_set]; omega), sheetK_at hp]
  · rw [if_neg e, shV, shV, List.getElem?_zipWith, List.getElem?_zipWith, List.getElem?_set, if_neg e]
theorem shV_mid {f k v : Nat} {a X : List Nat} (ha : a.length = k) (hx : k < X.length) (hk : k < 48) : setAt (shV (f :: (a ++ X.drop k))) (k + 1) [.int (skK (k + 1)) (v : Int)] = shV (f :: ((a ++ [v]) ++ X.drop (k + 1))) := by
 show (shV (f :: (a ++ X.drop k))).set (k + 1) _ = _
 rw [shV_set (by omega), List.drop_eq_getElem_cons hx]
 subst ha
 rw [List.set_cons_succ, List.set_append_right _ _ (Nat.le_refl _), Nat.sub_self, List.set_cons_zero, List.append_assoc]
 rfl
theorem shV_mid_at {f k x : Nat} {a X : List Nat} (ha : a.length = k) (hx : X[k]? = some x) (hk : k < 48) : (shV (f :: (a ++ X.drop k)))[k + 1]? = some (.int (skK (k + 1)) (x : Int)) := by
 refine shV_at (by omega) ?_
 rw [List.getElem?_cons_succ, List.getElem?_append_right (by omega), ha, Nat.sub_self, List.getElem?_drop]
 simpa using hx
/-- how wide a sheet's numbers are -/
def ptN (L : Lay) (f : Nat) : Nat := (ptsZ L (f : Int)).toNat
def clN (L : Lay) (f : Nat) : Nat := (colZ L (f : Int)).toNat
theorem ptN_bd (L : Lay) (f : Nat) : 1 ≤ ptN L f ∧ ptN L f ≤ 16 ∧ ptsZ L (f : Int) = (ptN L f : Int) := by
 have : 1 ≤ ptsZ L (f : Int) ∧ ptsZ L (f : Int) ≤ 16 := by unfold ptsZ; grind
 unfold ptN; omega
theorem clN_bd (L : Lay) (f : Nat) : 1 ≤ clN L f ∧ clN L f ≤ 4 ∧ colZ L (f : Int) = (clN L f : Int) := by
 have : 1 ≤ colZ L (f : Int) ∧ colZ L (f : Int) ≤ 4 := by unfold colZ; grind
 unfold clN; omega
def wPt (L : Lay) (f i : Nat) : Nat := if i < ptN L f then L.co.toNat else 0
def wCl (L : Lay) (f j : Nat) : Nat := if j / 4 < clN L f ∧ j % 4 < L.cs.toNat then L.cm.toNat else 0
def wS (L : Lay) (f : Nat) : Ws := (List.range 48).map fun p => if p < 32 then (wPt L f (p / 2), 4294967296) else (wCl L f (p - 32), 65536)
theorem wS_len (L : Lay) (f : Nat) : (wS L f).length = 48 := by simp [wS]
theorem wS_at {L : Lay} {f p : Nat} (h : p < 48) : (wS L f)[p]? = some (if p < 32 then (wPt L f (p / 2), 4294967296) else (wCl L f (p - 32), 65536)) := by
 rw [wS, List.getElem?_map, List.getElem?_range h]; rfl
theorem wS_pt {L : Lay} {f i p : Nat} (hi : i < 16) (hp : p = 2 * i ∨ p = 2 * i + 1) : (wS L f)[p]? = some (wPt L f i, 4294967296) := by
 rw [wS_at (by omega), if_pos (by omega), show p / 2 = i by omega]
theorem wS_cl {L : Lay} {f j : Nat} (hj : j < 16) : (wS L f)[32 + j]? = some (wCl L f j, 65536) := by
 rw [wS_at (by omega), if_neg (by omega), show 32 + j - 32 = j by omega]
theorem wPt_le {L : Lay} (h : okB L = true) (f i : Nat) : wPt L f i ≤ 32 := by
 have := (okB_bounds h).1
 unfold wPt; split <;> omega
theorem wCl_le {L : Lay} (h : okB L = true) (f j : Nat) : wCl L f j ≤ 16 := by
 have := (okB_bounds h).2.1
 unfold wCl; split <;> omega
theorem wS_le {L : Lay} (h : okB L = true) (f : Nat) : ∀ p ∈ wS L f, p.1 ≤ 32 := by
 intro p hp
 obtain ⟨k, _, rfl⟩ := List.mem_map.1 hp
 split
 · exact wPt_le h ..
 · exact Nat.le_trans (wCl_le h ..) (by decide)
/-- the numbers of a sheet, but its flag -/
structure Sh (X : List Nat) : Prop where
 len : X.length = 48
 pt : ∀ {p x}, X[p]? = some x → p < 32 → x < 4294967296
 cl : ∀ {p x}, X[p]? = some x → 32 ≤ p → x < 65536
theorem Und_of : ∀ {ws : Ws} {xs : List Nat}, ws.length = xs.length → (∀ (k w m x : Nat), ws[k]? = some (w, m) → xs[k]? = some x → x < m) → Und ws xs
 | [], [], _, _ => trivial
 | [], _ :: _, h, _ => by simp at h
 | _ :: _, [], h, _ => by simp at h
 | (w, m) :: ws, x :: xs, h, hk => ⟨hk 0 w m x rfl rfl, Und_of (by simpa using h) fun k w m x h1 h2 => hk (k + 1) w m x h1 h2⟩
theorem Sh.und {X : List Nat} (h : Sh X) (L : Lay) (f : Nat) : Und (wS L f) X := by
 refine Und_of (by rw [wS_len, h.len]) fun k w m x h1 h2 => ?_
 have hk : k < 48 := by rw [← h.len]; exact (List.getElem?_eq_some_iff.1 h2).1
 rw [wS_at hk] at h1
 by_cases hc : k < 32
 · rw [if_pos hc] at h1; cases h1; exact h.pt h2 hc
 · rw [if_neg hc] at h1; cases h1; exact h.cl h2 (by omega)
/-- a whole sheet through a hand -/
def thr {S : Type} (go : S → Nat → Nat → Nat × S) (L : Lay) (x0 : Nat) (X : List Nat) (s : S) : List Nat × S :=
 ((go s x0 L.fl.toNat).1 % 256 :: (run go (wS L ((go s x0 L.fl.toNat).1 % 256)) X (go s x0 L.fl.toNat).2).1, (run go (wS L ((go s x0 L.fl.toNat).1 % 256)) X (go s x0 L.fl.toNat).2).2)
theorem wrapN8 (x : Nat) : IntKind.u8.wrap (x : Int) = ((x % 256 : Nat) : Int) := by
 show (x : Int) % 256 = _
 omega
theorem wrapN16 (x : Nat) : IntKind.u16.wrap (x : Int) = ((x % 65536 : Nat) : Int) := by
 show (x : Int) % 65536 = _
 omega
theorem told_spec (w0 : Base) (η : Heap) (L : Lay) (f : Nat) (hf : f < 256) (hty : L.ty = 6 ∨ L.ty = 7) :
  CallsT Tryz.prog 163 [L.val, .int .u8 (f : Int)] (St w0 η) fun v A' => v = .tuple #[.int .i64 (ptN L f : Int), .int .i64 (clN L f : Int)] ∧ A' = St w0 η := by
 have hp := (ptN_bd L f).2.2
 have hc := (clN_bd L f).2.2
 unfold ptsZ at hp
 unfold colZ at hc
 refine CallsT.body Tryz.func163 rfl rfl ?_
 simp only [Tryz.ntmps163, slotsOf, Nat.reduceAdd]
 refine Qe (Qg ?_)
 refine TL_e rfl rfl rfl (rfl) (ET_box rfl rfl) ?_
 rintro _ _ ⟨b2, rfl, rfl⟩
 refine Qa rfl rfl (Qd rfl rfl rfl) ?_
 refine Qa rfl rfl (Qd rfl rfl rfl) ?_
 refine Qf (Qb (Qe (Qg ?_)))
 refine Qa rfl rfl (Qd rfl rfl rfl) ?_
 refine Qa rfl rfl (Qd rfl rfl rfl) ?_
 refine Qf (Qb (Qe (Qe (Qg ?_))))
 refine Qa rfl rfl (Qc rfl rfl rfl) ?_
 refine Qa rfl rfl (QT_eql rfl rfl rfl rfl) ?_
 refine Qf (Qb ?_)
 refine Qm rfl (fun h7 => ?_) (fun h7 => ?_)
 ·
  refine Qg ?_
  refine Qa rfl rfl (Qd rfl rfl rfl) ?_
  refine Qa rfl rfl (Qd rfl rfl rfl) ?_
  refine Qf (Qb (Qe (Qg ?_)))
  refine Qa rfl rfl (Qc rfl rfl rfl) ?_
  refine Qa rfl rfl (Qh rfl rfl KF.fld_27_0 rfl) ?_
  refine Qa rfl rfl (Qj 0 rfl rfl Tryz.underlying3 rfl rfl rfl (fun _ => rfl)) ?_
  refine Qa rfl rfl (QT_sub rfl rfl rfl rfl (fun _ => ⟨by omega, by omega⟩)) ?_
  refine Qa rfl rfl (QT_mul rfl rfl rfl rfl (fun _ => ⟨by omega, by omega⟩)) ?_
  refine Qa rfl rfl (Zb rfl rfl rfl rfl (fun _ => ⟨by omega, by omega⟩)) ?_
  refine Qa rfl rfl (Qc rfl rfl rfl) ?_
  refine Qa rfl rfl (Qd rfl rfl rfl) ?_
  refine Qa rfl rfl (Qd rfl rfl rfl) ?_
  refine Qf (Qb ?_)
  refine Qu ?_
  exact Qs (.inl rfl) (res2 rfl rfl rfl) ⟨_, ⟨by
   have e1 : (12 : Int) + 4 * (L.ty - 6) = (ptN L f : Int) := by rw [← hp]; rcases hty with h | h <;> simp [h, h7]
   have e2 : (4 : Int) = (clN L f : Int) := by rw [← hc]; rcases hty with h | h <;> simp [h, h7]
   rw [← e1, ← e2], rfl⟩, fun _ h => h.tail⟩
 ·
  refine Qt (Qb (Qe (Qg ?_)))
  refine Qa rfl rfl (Qc rfl rfl rfl) ?_
  refine Qa rfl rfl (Qh rfl rfl KF.fld_27_0 rfl) ?_
  refine Qa rfl rfl (Qj 0 rfl rfl Tryz.underlying3 rfl rfl rfl (fun _ => rfl)) ?_
  refine Qa rfl rfl (QT_sub rfl rfl rfl rfl (fun _ => ⟨by omega, by omega⟩)) ?_
  refine Qa rfl rfl (QT_mul rfl rfl rfl rfl (fun _ => ⟨by omega, by omega⟩)) ?_
  refine Qa rfl rfl (Zb rfl rfl rfl rfl (fun _ => ⟨by omega, by omega⟩)) ?_
  refine Qa rfl rfl (Qc rfl rfl rfl) ?_
  refine Qa rfl rfl (Qd rfl rfl rfl) ?_
  refine Qa rfl rfl (Qd rfl rfl rfl) ?_
  refine Qf (Qb ?_)
  refine Qu ?_
  exact Qs (.inl rfl) (res2 rfl rfl rfl) ⟨_, ⟨by
   have h8 : ¬ f = 0 := by omega
   have e1 : (8 : Int) + 4 * (L.ty - 6) = (ptN L f : Int) := by rw [← hp]; rcases hty with h | h <;> simp [h, h8]
   have e2 : (2 : Int) = (clN L f : Int) := by rw [← hc]; rcases hty with h | h <;> simp [h, h8]
   rw [← e1, ← e2], rfl⟩, fun _ h => h.tail⟩
theorem within_spec (w0 : Base) (A : World → Prop) (b : Bool) (m : Int) :
  CallsT Tryz.prog 164 [.bool b, .int .i64 m] A fun v A' => v = .int .i64 (if b = true then m else 0) ∧ A' = A := by
 refine CallsT.body Tryz.func164 rfl rfl ?_
 simp only [Tryz.ntmps164, slotsOf, Nat.reduceAdd]
 refine Qe (Qg ?_)
 refine Qa rfl rfl (Qd rfl rfl rfl) ?_
 refine Qf (Qb (Qe (Qe (Qg ?_))))
 refine Qa rfl rfl (Qc rfl rfl rfl) ?_
 refine Qf (Qb ?_)
 refine TC_cond rfl (fun h5 => ?_) (fun h5 => ?_)
 ·
  refine Qe (Qg ?_)
  refine Qa rfl rfl (Qc rfl rfl rfl) ?_
  refine Qa rfl rfl (Qd rfl rfl rfl) ?_
  refine Qf (Qb ?_)
  refine Qu ?_
  refine Qn ?_
  exact Qs (.inl rfl) (res1 rfl rfl) ⟨_, ⟨by rw [if_pos h5], rfl⟩, fun _ h => h⟩
 ·
  refine Qt (Qb (Qe (Qg ?_)))
  refine Qa rfl rfl (Qd rfl rfl rfl) ?_
  refine Qf (Qb ?_)
  refine Qu ?_
  exact Qs (.inl rfl) (res1 rfl rfl) ⟨_, ⟨by rw [if_neg (by rw [h5]; decide)], rfl⟩, fun _ h => h⟩
section
variable {w0 : Base} {S : Type} {t : TypeId} {r : Value} {f : FuncId} {go : S → Nat → Nat → Nat × S} {sz : S → Nat} {Rep : S → Heap → Prop} {Ok : Heap → Prop}
theorem bent_uint8 (h : HandOk w0 t r f go sz Rep Ok) (X η K : Heap) (s : S) (pb : Nat) (tt : TypeId) (cells : List Value) (off v w : Nat) (hO : Ok η) (hK : Rep s K) (hs : sz s ≤ 100000) (hc : cells[off]? = some (.int .u8 (v : Int))) (hv : v < 256) (hw : w ≤ 32) :
  CallsT Tryz.prog 162 [.iface t r, .pointer (some ⟨pb, off, none⟩), .int .i64 (w : Int)] (St w0 ((pb, tt, cells) :: (X ++ (K ++ η)))) fun z A' => z = .tuple #[] ∧ ∃ K', Rep (go s v w).2 K' ∧ A' = St w0 ((pb, tt, setAt cells off [.int .u8 (((go s v w).1 % 256 : Nat) : Int)]) :: (X ++ (K' ++ η))) := by
 have hlt := cells_lt hc
 refine CallsT.body Tryz.func162 rfl rfl ?_
 simp only [Tryz.ntmps162, slotsOf, Nat.reduceAdd]
 refine Qe (Qg ?_)
 refine Qa rfl rfl (Qc rfl rfl rfl) ?_
 refine Qa rfl rfl (Qv rfl rfl rfl) ?_
 refine Qa rfl rfl (Qj 0 rfl rfl Tryz.underlying5 rfl rfl rfl (fun _ => hc)) ?_
 refine Qa rfl rfl (QT_convN rfl rfl Tryz.underlying5 Tryz.underlying70 rfl (IntWalk.u32_in _ ⟨by omega, by omega⟩)) ?_
 refine TL_e rfl rfl rfl (rfl) (ET_alloc rfl KF.zero_70) ?_
 rintro _ _ ⟨b6, rfl, rfl⟩
 refine TL_e0 rfl rfl (rfl) (ET_store 0 rfl rfl rfl rfl KF.sz_70 rfl rfl rfl) ?_
 rintro _ _ ⟨rfl, rfl⟩
 refine Qf (Qb (Qe (Qg ?_)))
 refine Qa rfl rfl (Qc rfl rfl rfl) ?_
 refine Qa rfl rfl (Qc rfl rfl rfl) ?_
 refine TL_e rfl rfl rfl (rfl) (ET_goes (Goes.invoke rfl rfl h.met h.cal rfl) (h.deep ((pb, tt, cells) :: X) η K s b6 70 [.int .u32 (v : Int)] 0 v w hO hK hs rfl (by omega) hw)) ?_
 rintro _ _ ⟨rfl, K', hK', rfl⟩
 refine Qf (Qb (Qg ?_))
 refine Qa rfl rfl (Qc rfl rfl rfl) ?_
 refine Qa rfl rfl (Qj 0 rfl rfl Tryz.underlying70 rfl rfl rfl (fun _ => rfl)) ?_
 refine Qa rfl rfl (QT_convN rfl rfl Tryz.underlying70 Tryz.underlying5 rfl (wrapN8 _)) ?_
 refine Qa rfl rfl (Qv rfl rfl rfl) ?_
 refine TL_e0 rfl rfl (rfl) (ET_store (vs := [.int .u8 (((go s v w).1 % 256 : Nat) : Int)]) 1 rfl rfl rfl rfl KF.sz_5 rfl rfl hlt) ?_
 rintro _ _ ⟨rfl, rfl⟩
 refine Qf ?_
 exact Qs (.inr rfl) (res0 rfl) ⟨_, ⟨rfl, K', hK', rfl⟩, fun _ h => h.tail⟩
theorem bent_uint16 (h : HandOk w0 t r f go sz Rep Ok) (X η K : Heap) (s : S) (pb : Nat) (tt : TypeId) (cells : List Value) (off v w : Nat) (hO : Ok η) (hK : Rep s K) (hs : sz s ≤ 100000) (hc : cells[off]? = some (.int .u16 (v : Int))) (hv : v < 65536) (hw : w ≤ 32) :
  CallsT Tryz.prog 165 [.iface t r, .pointer (some ⟨pb, off, none⟩), .int .i64 (w : Int)] (St w0 ((pb, tt, cells) :: (X ++ (K ++ η)))) fun z A' => z = .tuple #[] ∧ ∃ K', Rep (go s v w).2 K' ∧ A' = St w0 ((pb, tt, setAt cells off [.int .u16 (((go s v w).1 % 65536 : Nat) : Int)]) :: (X ++ (K' ++ η))) := by
 have hlt := cells_lt hc
 refine CallsT.body Tryz.func165 rfl rfl ?_
 simp only [Tryz.ntmps165, slotsOf, Nat.reduceAdd]
 refine Qe (Qg ?_)
 refine Qa rfl rfl (Qc rfl rfl rfl) ?_
 refine Qa rfl rfl (Qv rfl rfl rfl) ?_
 refine Qa rfl rfl (Qj 0 rfl rfl Tryz.underlying73 rfl rfl rfl (fun _ => hc)) ?_
 refine Qa rfl rfl (QT_convN rfl rfl Tryz.underlying73 Tryz.underlying70 rfl (IntWalk.u32_in _ ⟨by omega, by omega⟩)) ?_
 refine TL_e rfl rfl rfl (rfl) (ET_alloc rfl KF.zero_70) ?_
 rintro _ _ ⟨b6, rfl, rfl⟩
 refine TL_e0 rfl rfl (rfl) (ET_store 0 rfl rfl rfl rfl KF.sz_70 rfl rfl rfl) ?_
 rintro _ _ ⟨rfl, rfl⟩
 refine Qf (Qb (Qe (Qg ?_)))
 refine Qa rfl rfl (Qc rfl rfl rfl) ?_
 refine Qa rfl rfl (Qc rfl rfl rfl) ?_
 refine TL_e rfl rfl rfl (rfl) (ET_goes (Goes.invoke rfl rfl h.met h.cal rfl) (h.deep ((pb, tt, cells) :: X) η K s b6 70 [.int .u32 (v : Int)] 0 v w hO hK hs rfl (by omega) hw)) ?_
 rintro _ _ ⟨rfl, K', hK', rfl⟩
 refine Qf (Qb (Qg ?_))
 refine Qa rfl rfl (Qc rfl rfl rfl) ?_
 refine Qa rfl rfl (Qj 0 rfl rfl Tryz.underlying70 rfl rfl rfl (fun _ => rfl)) ?_
 refine Qa rfl rfl (QT_convN rfl rfl Tryz.underlying70 Tryz.underlying73 rfl (wrapN16 _)) ?_
 refine Qa rfl rfl (Qv rfl rfl rfl) ?_
 refine TL_e0 rfl rfl (rfl) (ET_store (vs := [.int .u16 (((go s v w).1 % 65536 : Nat) : Int)]) 1 rfl rfl rfl rfl KF.sz_73 rfl rfl hlt) ?_
 rintro _ _ ⟨rfl, rfl⟩
 refine Qf ?_
 exact Qs (.inr rfl) (res0 rfl) ⟨_, ⟨rfl, K', hK', rfl⟩, fun _ h => h.tail⟩
end
end Go.Proofs.YtjdaglmkljbfkaaGreatDoor

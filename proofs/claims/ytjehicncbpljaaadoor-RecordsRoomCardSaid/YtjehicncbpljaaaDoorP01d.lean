/- THE BOOK: a list of bytes more. -/
import Derived.Test.YtjehicncbpljaaaDoorP01c
import Derived.Test.YtjehicncbpljaaaDoorG01d
namespace Go.Proofs.YtjehicncbpljaaaDoor
open Go Go.Gx Go.RowKit
set_option maxRecDepth 100000

theorem el_stripByte : ElemOk Tryd.prog 94 3 56 (.agg (nilS :: nilS :: [.int .u8 0]).toArray) := .of YtjehicncbpljaaaDoorF.sz_94 (by kernel_rfl) (by unfold ZeroOk; kernel_rfl) (by kernel_rfl) (by decide)
theorem book_Bytes (w0 : Base) (η H : Heap) (kb : Nat) (k : Bk) (ss : List Strip) (v : Value) (n : Nat) (xs : List Value) (Hv : Heap) (h0 : 0 ≤ k.many ∧ k.many ≤ 250) (hF : Frag 94 3 k.bytes ss.length (arrOf ss) H) (hs : ∀ s ∈ ss, s.ok 5 1 byteK) (hsl : ss.length ≤ 1000) (hv : ∃ ad n cap, v = .slice ad n cap) :
    CallsT Tryd.prog 13 [.pointer (some ⟨kb, 0, none⟩), v] (St w0 ((kb, 49, k.cells) :: (H ++ η))) fun _ A' => ∃ r H', Frag 94 3 r (ss.length + 1) (arrOf (ss ++ [⟨v, n, xs, nilS, [.int .u8 (k.many + 1)], Hv⟩])) H' ∧ A' = St w0 ((kb, 49, { k with many := k.many + 1, bytes := r }.cells) :: (H' ++ η)) := by
  obtain ⟨vad, vn, vcap, rfl⟩ := hv
  obtain ⟨fad, fcap, hfv, hfc, _⟩ := hF.slice
  have hwr : IntKind.u8.wrap (k.many + 1) = k.many + 1 := IntWalk.u8_in _ ⟨by omega, by omega⟩
  refine CallsT.body Tryd.func13 rfl rfl ?_
  simp only [Tryd.ntmps13, slotsOf, Nat.reduceAdd]
  refine TC_draw [(0, 0), (1, 0), (2, 0), (3, 0), (4, 0), (5, 0), (6, 0), (7, 1), (8, 0), (9, 0), (10, 1), (11, 1), (12, 0), (13, 0), (14, 1)] YtjehicncbpljaaaDoorF.mixed (by kernel_rfl) (St.calm _ _) ?_
  refine TV_q rfl rfl rfl (fun _ => QT_move rfl rfl rfl) ?_
  refine TV_q rfl rfl rfl (fun _ => QT_move rfl rfl rfl) ?_
  refine TV_q rfl rfl rfl (fun _ => QT_nilCheck rfl rfl rfl) ?_
  refine TV_q rfl rfl rfl (fun _ => QT_field rfl rfl YtjehicncbpljaaaDoorF.fld_49_1 rfl) ?_
  first
    | refine TV_ql rfl rfl rfl (QT_load 0 rfl rfl Tryd.underlying35 rfl rfl rfl (fun _ => rfl)) ?_
    | refine TV_ql rfl rfl rfl (QT_load 1 rfl rfl Tryd.underlying35 rfl rfl rfl (fun _ => rfl)) ?_
    | refine TV_ql rfl rfl rfl (QT_load 2 rfl rfl Tryd.underlying35 rfl rfl rfl (fun _ => rfl)) ?_
  refine TV_q rfl rfl rfl (fun _ => QT_move rfl rfl rfl) ?_
  refine TV_q rfl rfl rfl (fun _ => QT_move rfl rfl rfl) ?_
  refine TV_e rfl rfl rfl rfl (rfl) (ET_call rfl YtjehicncbpljaaaDoorF.cal_35 rfl (next_spec w0 _ kb k (by omega))) ?_
  rintro _ _ ⟨rfl, rfl⟩
  refine ⟨_, .keep (by kernel_rfl) rfl (by first | exact QT_load 0 rfl rfl Tryd.underlying35 rfl rfl rfl (fun _ => rfl) | exact QT_load 1 rfl rfl Tryd.underlying35 rfl rfl rfl (fun _ => rfl) | exact QT_load 2 rfl rfl Tryd.underlying35 rfl rfl rfl (fun _ => rfl)) (.nil), ?_⟩
  refine TV_q rfl rfl rfl (fun _ => QT_convN rfl rfl Tryd.underlying3 Tryd.underlying5 rfl hwr) ?_
  refine TV_q rfl rfl rfl (fun _ => QT_build rfl rfl YtjehicncbpljaaaDoorF.zero_94 YtjehicncbpljaaaDoorF.pl_94 rfl rfl rfl) ?_
  refine TV_e rfl rfl rfl rfl (rfl) (ET_buildN [_] rfl Tryd.underlying35 YtjehicncbpljaaaDoorF.sz_94 YtjehicncbpljaaaDoorF.zero_94 rfl rfl rfl (fun v hv => by cases List.mem_singleton.1 hv; rfl)) ?_
  rintro _ _ ⟨b14, rfl, rfl⟩
  refine ⟨_, .keep (by kernel_rfl) rfl (by first | exact QT_load 0 rfl rfl Tryd.underlying35 rfl rfl rfl (fun _ => rfl) | exact QT_load 1 rfl rfl Tryd.underlying35 rfl rfl rfl (fun _ => rfl) | exact QT_load 2 rfl rfl Tryd.underlying35 rfl rfl rfl (fun _ => rfl)) (.nil), ?_⟩
  refine TV_e rfl rfl rfl rfl (rfl) (ET_appendL (L := [_, _]) rfl Tryd.underlying35 el_stripByte rfl rfl hF (fun _ h => h) (SlA.own (n := 1) (xs := [.slice vad vn vcap, nilS, .int .u8 (k.many + 1)]) 0 rfl rfl (Nat.le_refl _) (by omega)) (fun u hu => by
   rcases List.mem_cons.1 hu with rfl | hu
   · rfl
   · rcases List.mem_cons.1 hu with rfl | hu
     · rfl
     · cases List.mem_singleton.1 hu; rfl) (by omega) (by omega)) ?_
  rintro r _ ⟨H', hF', rfl⟩
  refine ⟨_, .drop (by kernel_rfl) (.nil), ?_⟩
  obtain ⟨rad, rcap, rfl, _, _⟩ := hF'.slice
  refine TV_q rfl rfl rfl (fun _ => QT_nilCheck rfl rfl rfl) ?_
  refine TV_q rfl rfl rfl (fun _ => QT_field rfl rfl YtjehicncbpljaaaDoorF.fld_49_1 rfl) ?_
  first
    | refine TV_e0 rfl rfl rfl (rfl) (ET_store 0 rfl rfl rfl rfl YtjehicncbpljaaaDoorF.sz_35 rfl rfl rfl) ?_
    | refine TV_e0 rfl rfl rfl (rfl) (ET_store 1 rfl rfl rfl rfl YtjehicncbpljaaaDoorF.sz_35 rfl rfl rfl) ?_
    | refine TV_e0 rfl rfl rfl (rfl) (ET_store 2 rfl rfl rfl rfl YtjehicncbpljaaaDoorF.sz_35 rfl rfl rfl) ?_
  rintro _ _ ⟨rfl, rfl⟩
  refine ⟨_, .nil, ?_⟩
  refine TV_end ?_
  refine TX_ret (.inr rfl) (res0 rfl) ⟨_, ⟨.slice rad (ss.length + 1) rcap, H', by rw [arrOf_append]; simpa [arrOf, Strip.cells] using hF', rfl⟩, fun w h => ?_⟩
  have h2 : St w0 ((b14, 94, _) :: (kb, 49, { k with many := k.many + 1, bytes := .slice rad (ss.length + 1) rcap }.cells) :: (H' ++ η)) w := h
  exact h2.tail
end Go.Proofs.YtjehicncbpljaaaDoor

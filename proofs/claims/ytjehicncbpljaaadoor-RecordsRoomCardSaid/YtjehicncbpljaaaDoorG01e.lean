/- THE BOOK: a list of vertices, of triangles more. -/
import Derived.Test.YtjehicncbpljaaaDoorG01d
import Derived.Test.YtjehicncbpljaaaDoorI
namespace Go.Proofs.YtjehicncbpljaaaDoor
open Go Go.Gx Go.RowKit
set_option maxRecDepth 100000

def rcMark (c : Int) : List Value := .int .u8 0 :: .int .u32 c :: zs (recK.drop 2)
def trMark (c : Int) : List Value := .int .u8 0 :: .int .u32 c :: zs (triK.drop 2)
theorem rcMark_ints {c : Int} (h : 0 ≤ c ∧ c ≤ 2000) : Ints recK (rcMark c) :=
  show Ints (.u8 :: .u32 :: recK.drop 2) (rcMark c) from .cons (by decide) (.cons (u32_wf h) (zs_ints _))
theorem trMark_ints {c : Int} (h : 0 ≤ c ∧ c ≤ 2000) : Ints triK (trMark c) :=
  show Ints (.u8 :: .u32 :: triK.drop 2) (trMark c) from .cons (by decide) (.cons (u32_wf h) (zs_ints _))

theorem el_stripRec : ElemOk Tryd.prog 96 9 72 (.agg (nilS :: nilS :: zs recK).toArray) := .of YtjehicncbpljaaaDoorF.sz_96 (by kernel_rfl) (by unfold ZeroOk; kernel_rfl) (by kernel_rfl) (by decide)
theorem book_Recs (w0 : Base) (η H : Heap) (kb : Nat) (k : Bk) (ss : List Strip) (v : Value) (n : Nat) (xs : List Value) (Hv : Heap) (h0 : 0 ≤ k.many ∧ k.many ≤ 1000) (hF : Frag 96 9 k.recs ss.length (arrOf ss) H) (hs : ∀ s ∈ ss, s.ok 67 7 recK) (hsl : ss.length ≤ 1000) (hv : ∃ ad n cap, v = .slice ad n cap) :
    CallsT Tryd.prog 14 [.pointer (some ⟨kb, 0, none⟩), v] (St w0 ((kb, 49, k.cells) :: (H ++ η))) fun _ A' => ∃ r H', Frag 96 9 r (ss.length + 1) (arrOf (ss ++ [⟨v, n, xs, nilS, rcMark (k.many + 1), Hv⟩])) H' ∧ A' = St w0 ((kb, 49, { k with many := k.many + 1, recs := r }.cells) :: (H' ++ η)) := by
  obtain ⟨vad, vn, vcap, rfl⟩ := hv
  obtain ⟨fad, fcap, hfv, hfc, _⟩ := hF.slice
  have hwr : IntKind.u32.wrap (k.many + 1) = k.many + 1 := IntWalk.u32_in _ ⟨by omega, by omega⟩
  have hmi := rcMark_ints (c := k.many + 1) (by omega)
  refine CallsT.body Tryd.func14 rfl rfl ?_
  simp only [Tryd.ntmps14, slotsOf, Nat.reduceAdd]
  refine TC_draw [(0, 0), (1, 0), (2, 0), (3, 0), (4, 0), (5, 0), (6, 0), (7, 1), (8, 0), (9, 0), (10, 0), (11, 0), (12, 1), (13, 1), (14, 0), (15, 0), (16, 1)] YtjehicncbpljaaaDoorF.mixed (by kernel_rfl) (St.calm _ _) ?_
  refine TV_q rfl rfl rfl (fun _ => QT_move rfl rfl rfl) ?_
  refine TV_q rfl rfl rfl (fun _ => QT_move rfl rfl rfl) ?_
  refine TV_q rfl rfl rfl (fun _ => QT_nilCheck rfl rfl rfl) ?_
  refine TV_q rfl rfl rfl (fun _ => QT_field rfl rfl YtjehicncbpljaaaDoorF.fld_49_4 rfl) ?_
  first
    | refine TV_ql rfl rfl rfl (QT_load 0 rfl rfl Tryd.underlying38 rfl rfl rfl (fun _ => rfl)) ?_
    | refine TV_ql rfl rfl rfl (QT_load 1 rfl rfl Tryd.underlying38 rfl rfl rfl (fun _ => rfl)) ?_
    | refine TV_ql rfl rfl rfl (QT_load 2 rfl rfl Tryd.underlying38 rfl rfl rfl (fun _ => rfl)) ?_
  refine TV_q rfl rfl rfl (fun _ => QT_move rfl rfl rfl) ?_
  refine TV_q rfl rfl rfl (fun _ => QT_move rfl rfl rfl) ?_
  refine TV_e rfl rfl rfl rfl (rfl) (ET_call rfl YtjehicncbpljaaaDoorF.cal_35 rfl (next_spec w0 _ kb k h0)) ?_
  rintro _ _ ⟨rfl, rfl⟩
  refine ⟨_, .keep (by kernel_rfl) rfl (by first | exact QT_load 0 rfl rfl Tryd.underlying38 rfl rfl rfl (fun _ => rfl) | exact QT_load 1 rfl rfl Tryd.underlying38 rfl rfl rfl (fun _ => rfl) | exact QT_load 2 rfl rfl Tryd.underlying38 rfl rfl rfl (fun _ => rfl)) (.nil), ?_⟩
  refine TV_q rfl rfl rfl (fun _ => QT_convN rfl rfl Tryd.underlying3 Tryd.underlying60 rfl hwr) ?_
  refine TV_q rfl rfl rfl (fun _ => QT_build rfl rfl YtjehicncbpljaaaDoorF.zero_62 YtjehicncbpljaaaDoorF.pl_62 rfl rfl rfl) ?_
  refine TV_q rfl rfl rfl (fun _ => QT_build rfl rfl YtjehicncbpljaaaDoorF.zero_67 YtjehicncbpljaaaDoorF.pl_67 rfl rfl rfl) ?_
  refine TV_q rfl rfl rfl (fun _ => QT_build rfl rfl YtjehicncbpljaaaDoorF.zero_96 YtjehicncbpljaaaDoorF.pl_96 rfl rfl rfl) ?_
  refine TV_e rfl rfl rfl rfl (rfl) (ET_buildN [_] rfl Tryd.underlying38 YtjehicncbpljaaaDoorF.sz_96 YtjehicncbpljaaaDoorF.zero_96 rfl rfl rfl (fun v hv => by cases List.mem_singleton.1 hv; rfl)) ?_
  rintro _ _ ⟨bP, rfl, rfl⟩
  refine ⟨_, .keep (by kernel_rfl) rfl (by first | exact QT_load 0 rfl rfl Tryd.underlying38 rfl rfl rfl (fun _ => rfl) | exact QT_load 1 rfl rfl Tryd.underlying38 rfl rfl rfl (fun _ => rfl) | exact QT_load 2 rfl rfl Tryd.underlying38 rfl rfl rfl (fun _ => rfl)) (.nil), ?_⟩
  refine TV_e rfl rfl rfl rfl (rfl) (ET_appendL (L := [_, _]) rfl Tryd.underlying38 el_stripRec rfl rfl hF (fun _ h => h) (SlA.own (n := 1) (xs := .slice vad vn vcap :: nilS :: rcMark (k.many + 1)) 0 rfl rfl (Nat.le_refl _) (by omega)) (fun u hu => by
   rcases List.mem_cons.1 hu with rfl | hu
   · rfl
   · rcases List.mem_cons.1 hu with rfl | hu
     · rfl
     · exact hmi.oneCell u hu) (by omega) (by omega)) ?_
  rintro r _ ⟨H', hF', rfl⟩
  refine ⟨_, .drop (by kernel_rfl) (.nil), ?_⟩
  obtain ⟨rad, rcap, rfl, _, _⟩ := hF'.slice
  refine TV_q rfl rfl rfl (fun _ => QT_nilCheck rfl rfl rfl) ?_
  refine TV_q rfl rfl rfl (fun _ => QT_field rfl rfl YtjehicncbpljaaaDoorF.fld_49_4 rfl) ?_
  first
    | refine TV_e0 rfl rfl rfl (rfl) (ET_store 0 rfl rfl rfl rfl YtjehicncbpljaaaDoorF.sz_38 rfl rfl rfl) ?_
    | refine TV_e0 rfl rfl rfl (rfl) (ET_store 1 rfl rfl rfl rfl YtjehicncbpljaaaDoorF.sz_38 rfl rfl rfl) ?_
    | refine TV_e0 rfl rfl rfl (rfl) (ET_store 2 rfl rfl rfl rfl YtjehicncbpljaaaDoorF.sz_38 rfl rfl rfl) ?_
  rintro _ _ ⟨rfl, rfl⟩
  refine ⟨_, .nil, ?_⟩
  refine TV_end ?_
  refine TX_ret (.inr rfl) (res0 rfl) ⟨_, ⟨.slice rad (ss.length + 1) rcap, H', by rw [arrOf_append]; simpa [arrOf, Strip.cells] using hF', rfl⟩, fun w h => ?_⟩
  have h2 : St w0 ((bP, 96, _) :: (kb, 49, { k with many := k.many + 1, recs := .slice rad (ss.length + 1) rcap }.cells) :: (H' ++ η)) w := h
  exact h2.tail
end Go.Proofs.YtjehicncbpljaaaDoor

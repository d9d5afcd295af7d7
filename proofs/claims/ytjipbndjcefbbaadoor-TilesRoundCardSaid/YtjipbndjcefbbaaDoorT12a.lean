/- A PATCH OF A SHEET, WHOLE: what the program's own function makes of a sheet's cells and of the patch's ahead. -/
import Derived.Test.YtjipbndjcefbbaaDoorI
import Derived.Test.YtjipbndjcefbbaaDoorG01d
import Derived.Test.YtjipbndjcefbbaaDoorL08b
namespace Go.Proofs.YtjipbndjcefbbaaDoor
open Go Go.Gx Go.RowKit
set_option maxRecDepth 100000

def zP : List Value := zs patchK
def eP (f k : Nat) : Nat := (3 * f + k) % 12
def eC (f k : Nat) : Nat := (f + k) % 4
def erow (f : Nat) : List Value := [.int .i64 ((eP f 0 : Nat) : Int), .int .i64 ((eP f 1 : Nat) : Int), .int .i64 ((eP f 2 : Nat) : Int), .int .i64 ((eP f 3 : Nat) : Int), .int .i64 ((eC f 0 : Nat) : Int), .int .i64 ((eC f 1 : Nat) : Int)]
def edgesL : List Value := [.int .i64 0, .int .i64 0, .int .i64 0, .int .i64 0, .int .i64 0, .int .i64 0, .int .i64 3, .int .i64 4, .int .i64 5, .int .i64 6, .int .i64 1, .int .i64 2, .int .i64 6, .int .i64 7, .int .i64 8, .int .i64 9, .int .i64 2, .int .i64 3, .int .i64 9, .int .i64 10, .int .i64 11, .int .i64 0, .int .i64 3, .int .i64 0]
def Edges (w0 : World) : Prop := ∀ j v, edgesL[j]? = some v → w0.cell? ⟨0, 0 + j, none⟩ = some v
theorem edges_row : ∀ f : Nat, 1 ≤ f → f ≤ 3 → (edgesL.drop (f * 6)).take 6 = erow f
  | 1, _, _ => rfl
  | 2, _, _ => rfl
  | 3, _, _ => rfl
def ptsTo (ah : List Value) (f : Nat) : Nat → List Value
  | 0 => zP
  | k + 1 => setAt (ptsTo ah f k) (0 + 0 + k * 2) ((ah.drop (0 + 0 + eP f k * 2)).take 2)
def colTo (ah : List Value) (f : Nat) : Nat → List Value
  | 0 => ptsTo ah f 4
  | k + 1 => setAt (colTo ah f k) (0 + 32 + k * 4) ((ah.drop (0 + 32 + eC f k * 4)).take 4)
theorem ptsTo_len (ah : List Value) (f : Nat) : ∀ k, (ptsTo ah f k).length = 48
  | 0 => rfl
  | k + 1 => by rw [ptsTo, setAt_length, ptsTo_len ah f k]
theorem colTo_len (ah : List Value) (f : Nat) : ∀ k, (colTo ah f k).length = 48
  | 0 => ptsTo_len ah f 4
  | k + 1 => by rw [colTo, setAt_length, colTo_len ah f k]
theorem all_part {ks : List IntKind} {ah : List Value} (h : Ints ks ah) (i m : Nat) : ((ah.drop i).take m).all Value.oneCell' = true :=
  List.all_eq_true.2 fun u hu => h.oneCell u (List.mem_of_mem_drop (List.mem_of_mem_take hu))
theorem part_len (ah : List Value) (i m : Nat) (h : i + m ≤ ah.length) : ((ah.drop i).take m).length = m := by rw [List.length_take, List.length_drop]; omega
theorem eP_lt (f k : Nat) : eP f k < 12 := Nat.mod_lt _ (by decide)
theorem eC_lt (f k : Nat) : eC f k < 4 := Nat.mod_lt _ (by decide)

def spC (ah : List Value) (k : Nat) : List Value := (ah.drop (k * 2)).take 2
def coC (ah : List Value) (k : Nat) : List Value := (ah.drop (32 + k * 4)).take 4
/-- the patch of a sheet's cells, behind a patch's -/
def wholeC (pts f : Nat) (s ah : List Value) : List Value :=
  if f = 0 then (s.drop 1).take (2 * pts) ++ List.replicate (32 - 2 * pts) (.int .u32 0) ++ (s.drop 33).take 16
  else spC ah (eP f 0) ++ spC ah (eP f 1) ++ spC ah (eP f 2) ++ spC ah (eP f 3) ++ (s.drop 1).take (2 * (pts - 4)) ++ List.replicate (32 - 2 * pts) (.int .u32 0) ++ coC ah (eC f 0) ++ coC ah (eC f 1) ++ (s.drop 33).take 8

theorem whole_eq0 {pts : Nat} {s ah : List Value} (hs : s.length = 49) (ha : ah.length = 48) (hp : pts = 12 ∨ pts = 16) :
    setAt (setAt zP (0 + 0 + 0 * 2) (((s.drop (0 + 1)).take (16 * 2)).take (min 16 (pts - 0) * 2))) (0 + 32 + 0 * 4) (((s.drop (0 + 33)).take (4 * 4)).take (min 4 (4 - 0) * 4)) = wholeC pts 0 s ah := by
  obtain ⟨g, rfl⟩ := tab' (.bool false) s hs
  obtain ⟨h, rfl⟩ := tab' (.bool false) ah ha
  rcases hp with rfl | rfl <;> kernel_rfl
theorem whole_eqE {pts f : Nat} {s ah : List Value} (hs : s.length = 49) (ha : ah.length = 48) (hp : pts = 12 ∨ pts = 16) (hf : f = 1 ∨ f = 2 ∨ f = 3) :
    setAt (setAt (colTo ah f 2) (0 + 0 + 4 * 2) (((s.drop (0 + 1)).take (16 * 2)).take (min 16 (pts - 4) * 2))) (0 + 32 + 2 * 4) (((s.drop (0 + 33)).take (4 * 4)).take (min 4 (4 - 2) * 4)) = wholeC pts f s ah := by
  obtain ⟨g, rfl⟩ := tab' (.bool false) s hs
  obtain ⟨h, rfl⟩ := tab' (.bool false) ah ha
  rcases hp with rfl | rfl <;> rcases hf with rfl | rfl | rfl <;> kernel_rfl

theorem whole_ints {pts f : Nat} {s ah : List Value} (hs : Ints sheetK s) (ha : Ints patchK ah) (hp : pts = 12 ∨ pts = 16) (hf : f ≤ 3) : Ints patchK (wholeC pts f s ah) := by
  have z := fun n => Ints.zeros (k := .u32) (by decide) n
  by_cases h0 : f = 0
  · unfold wholeC; rw [if_pos h0]
    have e : patchK = (sheetK.drop 1).take (2 * pts) ++ List.replicate (32 - 2 * pts) .u32 ++ (sheetK.drop 33).take 16 := by rcases hp with rfl | rfl <;> decide
    rw [e]
    exact (((hs.drop 1).take _).append (z _)).append ((hs.drop 33).take 16)
  · unfold wholeC; rw [if_neg h0]
    have e : patchK = (patchK.drop (eP f 0 * 2)).take 2 ++ (patchK.drop (eP f 1 * 2)).take 2 ++ (patchK.drop (eP f 2 * 2)).take 2 ++ (patchK.drop (eP f 3 * 2)).take 2 ++ (sheetK.drop 1).take (2 * (pts - 4)) ++ List.replicate (32 - 2 * pts) .u32 ++ (patchK.drop (32 + eC f 0 * 4)).take 4 ++ (patchK.drop (32 + eC f 1 * 4)).take 4 ++ (sheetK.drop 33).take 8 := by
      have hf' : f = 1 ∨ f = 2 ∨ f = 3 := by omega
      rcases hp with rfl | rfl <;> rcases hf' with rfl | rfl | rfl <;> decide
    rw [e]
    unfold spC coC
    exact (((((((((ha.drop _).take 2).append ((ha.drop _).take 2)).append ((ha.drop _).take 2)).append ((ha.drop _).take 2)).append ((hs.drop 1).take _)).append (z _)).append ((ha.drop _).take 4)).append ((ha.drop _).take 4)).append ((hs.drop 33).take 8)
theorem zP_ints : Ints patchK zP := zs_ints _

theorem whole_0 (w0 : World) (η : Heap) (s ah : List Value) (pts : Nat) (hs : Ints sheetK s) (ha : Ints patchK ah) (hp : pts = 12 ∨ pts = 16) (hf : s[0]? = some (.int .u8 0)) :
    CallsT Tryd.prog 23 [.agg s.toArray, .agg ah.toArray, .int .i64 (pts : Int)] (St w0 η) fun v A' => v = .agg (wholeC pts 0 s ah).toArray ∧ A' = St w0 η := by
  have hsl : s.length = 49 := hs.length
  have hal : ah.length = 48 := ha.length
  have hzl : zP.length = 48 := rfl
  have hwi := whole_ints hs ha hp (Nat.zero_le 3)
  have hsz : Sz Tryd.prog 66 (wholeC pts 0 s ah).length := by rw [hwi.length]; exact YtjipbndjcefbbaaDoorF.sz_66
  refine CallsT.body Tryd.func23 rfl rfl ?_
  simp only [Tryd.ntmps23, slotsOf, Nat.reduceAdd]
  refine TC_seq ?_
  refine TC_reg ?_
  refine TL_e rfl rfl rfl (rfl) (ET_box rfl rfl) ?_
  rintro _ _ ⟨b3, rfl, rfl⟩
  refine TL_e rfl rfl rfl (rfl) (ET_box rfl rfl) ?_
  rintro _ _ ⟨b4, rfl, rfl⟩
  refine TL_e rfl rfl rfl (rfl) (ET_alloc rfl YtjipbndjcefbbaaDoorF.zero_66) ?_
  rintro _ _ ⟨b6, rfl, rfl⟩
  refine TL_nil ?_
  refine TX_then ?_
  refine TC_seq ?_
  refine TC_reg ?_
  refine TL_q rfl rfl (QT_assign rfl rfl rfl) ?_
  refine TL_q rfl rfl (QT_assign rfl rfl rfl) ?_
  refine TL_nil ?_
  refine TX_then ?_
  refine TC_seq ?_
  refine TC_seq ?_
  refine TC_reg ?_
  refine TL_q rfl rfl (QT_field rfl rfl YtjipbndjcefbbaaDoorF.fld_64_0 rfl) ?_
  refine TL_q rfl rfl (QT_load 2 rfl rfl Tryd.underlying5 rfl rfl rfl (fun _ => hf)) ?_
  refine TL_q rfl rfl (QT_gtr rfl rfl rfl rfl) ?_
  refine TL_nil ?_
  refine TX_then ?_
  refine TC_cond rfl (fun h => absurd (h.symm.trans ((show (_ : Bool) = false by rfl))) (by decide)) (fun _ => ?_)
  refine TC_skip ?_
  refine TX_then ?_
  refine TC_seq ?_
  refine TC_draw [(0, 0), (1, 0), (2, 0), (3, 0), (4, 0), (5, 0), (6, 1)] YtjipbndjcefbbaaDoorF.mixed (by kernel_rfl) (St.calm _ _) ?_
  refine TV_q rfl rfl rfl (fun _ => QT_field rfl rfl YtjipbndjcefbbaaDoorF.fld_66_0 rfl) ?_
  refine TV_q rfl rfl rfl (fun _ => QT_move rfl rfl rfl) ?_
  refine TV_q rfl rfl rfl (fun _ => QT_move rfl rfl rfl) ?_
  refine TV_q rfl rfl rfl (fun _ => QT_slaLH (0) (pts) rfl rfl rfl Tryd.underlying58 YtjipbndjcefbbaaDoorF.sz_57 rfl rfl rfl rfl rfl (fun _ => ⟨by omega, by omega, by omega⟩)) ?_
  refine TV_q rfl rfl rfl (fun _ => QT_field rfl rfl YtjipbndjcefbbaaDoorF.fld_64_1 rfl) ?_
  refine TV_q rfl rfl rfl (fun _ => QT_slaA  rfl rfl rfl rfl rfl Tryd.underlying58 YtjipbndjcefbbaaDoorF.sz_57 rfl ) ?_
  refine TV_e rfl rfl rfl rfl (rfl) (ET_copy (news := (s.drop (0 + 1)).take (16 * 2)) 0 rfl Tryd.underlying146 YtjipbndjcefbbaaDoorF.sz_57 rfl rfl rfl (SlA.own (n := 16) 2 rfl rfl (show 0 + 1 + 16 * 2 ≤ s.length by omega) (by omega)) (fun u hu => hs.oneCell u (List.mem_of_mem_drop (List.mem_of_mem_take hu))) (show 0 + 0 + 0 * 2 + min 16 (pts - 0) * 2 ≤ zP.length by omega)) ?_
  rintro _ _ ⟨rfl, rfl⟩
  refine ⟨_, .nil, ?_⟩
  refine TV_end ?_
  refine TX_then ?_
  refine TC_seq ?_
  refine TC_draw [(0, 0), (1, 0), (2, 0), (3, 0), (4, 0), (5, 1)] YtjipbndjcefbbaaDoorF.mixed (by kernel_rfl) (St.calm _ _) ?_
  refine TV_q rfl rfl rfl (fun _ => QT_field rfl rfl YtjipbndjcefbbaaDoorF.fld_66_1 rfl) ?_
  refine TV_q rfl rfl rfl (fun _ => QT_move rfl rfl rfl) ?_
  refine TV_q rfl rfl rfl (fun _ => QT_slaL (0) rfl rfl rfl rfl Tryd.underlying62 YtjipbndjcefbbaaDoorF.sz_61 rfl rfl rfl (fun _ => by omega)) ?_
  refine TV_q rfl rfl rfl (fun _ => QT_field rfl rfl YtjipbndjcefbbaaDoorF.fld_64_2 rfl) ?_
  refine TV_q rfl rfl rfl (fun _ => QT_slaA  rfl rfl rfl rfl rfl Tryd.underlying62 YtjipbndjcefbbaaDoorF.sz_61 rfl ) ?_
  refine TV_e rfl rfl rfl rfl (rfl) (ET_copy (news := (s.drop (0 + 33)).take (4 * 4)) 0 rfl Tryd.underlying147 YtjipbndjcefbbaaDoorF.sz_61 rfl rfl rfl (SlA.own (n := 4) 2 rfl rfl (show 0 + 33 + 4 * 4 ≤ s.length by omega) (by omega)) (fun u hu => hs.oneCell u (List.mem_of_mem_drop (List.mem_of_mem_take hu))) (by rw [setAt_length]; show 0 + 32 + 0 * 4 + min 4 (4 - 0) * 4 ≤ zP.length; omega)) ?_
  rintro _ _ ⟨rfl, rfl⟩
  refine ⟨_, .nil, ?_⟩
  refine TV_end ?_
  refine TX_then ?_
  refine TC_seq ?_
  refine TC_A (St w0 ((b6, 66, wholeC pts 0 s ah) :: (b4, 66, ah) :: (b3, 64, s) :: η)) (fun w h => by rw [← whole_eq0 hsl hal hp]; exact h) ?_
  refine TC_reg ?_
  refine TL_q rfl rfl (QT_loadW 0 rfl rfl Tryd.underlying66 rfl rfl rfl hsz) ?_
  refine TL_e0 rfl rfl (rfl) (ET_storeW 0 rfl rfl rfl hsz rfl (List.all_eq_true.2 hwi.oneCell) (Nat.beq_refl _)) ?_
  rintro _ _ ⟨rfl, rfl⟩
  refine TL_nil ?_
  refine TX_then ?_
  refine TC_ret ?_
  exact TX_ret (.inl rfl) (resC 0 rfl rfl Tryd.underlying66 rfl rfl hsz) ⟨_, ⟨rfl, rfl⟩, (fun _ h => by first | exact h | exact h.tail | exact h.tail.tail | exact h.tail.tail.tail | exact h.tail.tail.tail.tail | exact h.tail.tail.tail.tail.tail | exact h.tail.tail.tail.tail.tail.tail | exact h.tail.tail.tail.tail.tail.tail.tail | exact h.tail.tail.tail.tail.tail.tail.tail.tail | exact h.tail.tail.tail.tail.tail.tail.tail.tail.tail | exact h.tail.tail.tail.tail.tail.tail.tail.tail.tail.tail | exact h.tail.tail.tail.tail.tail.tail.tail.tail.tail.tail.tail | exact h.tail.tail.tail.tail.tail.tail.tail.tail.tail.tail.tail.tail | exact h.tail.tail.tail.tail.tail.tail.tail.tail.tail.tail.tail.tail.tail)⟩
theorem whole_e (w0 : World) (η : Heap) (hE : Edges w0) (s ah : List Value) (pts f : Nat) (hs : Ints sheetK s) (ha : Ints patchK ah) (hp : pts = 12 ∨ pts = 16) (hf : s[0]? = some (.int .u8 (f : Int))) (h1 : 1 ≤ f) (h3 : f ≤ 3) :
    CallsT Tryd.prog 23 [.agg s.toArray, .agg ah.toArray, .int .i64 (pts : Int)] (St w0 η) fun v A' => v = .agg (wholeC pts f s ah).toArray ∧ A' = St w0 η := by
  have hsl : s.length = 49 := hs.length
  have hal : ah.length = 48 := ha.length
  have hwi := whole_ints hs ha hp h3
  have hsz : Sz Tryd.prog 66 (wholeC pts f s ah).length := by rw [hwi.length]; exact YtjipbndjcefbbaaDoorF.sz_66
  have hR : ∀ η', Rd (St w0 η') 0 0 edgesL := fun η' => Rd.start hE
  refine CallsT.body Tryd.func23 rfl rfl ?_
  simp only [Tryd.ntmps23, slotsOf, Nat.reduceAdd]
  refine TC_seq ?_
  refine TC_reg ?_
  refine TL_e rfl rfl rfl (rfl) (ET_box rfl rfl) ?_
  rintro _ _ ⟨b3, rfl, rfl⟩
  refine TL_e rfl rfl rfl (rfl) (ET_box rfl rfl) ?_
  rintro _ _ ⟨b4, rfl, rfl⟩
  refine TL_e rfl rfl rfl (rfl) (ET_alloc rfl YtjipbndjcefbbaaDoorF.zero_66) ?_
  rintro _ _ ⟨b6, rfl, rfl⟩
  refine TL_nil ?_
  refine TX_then ?_
  refine TC_seq ?_
  refine TC_reg ?_
  refine TL_q rfl rfl (QT_assign rfl rfl rfl) ?_
  refine TL_q rfl rfl (QT_assign rfl rfl rfl) ?_
  refine TL_nil ?_
  refine TX_then ?_
  refine TC_seq ?_
  refine TC_seq ?_
  refine TC_reg ?_
  refine TL_q rfl rfl (QT_field rfl rfl YtjipbndjcefbbaaDoorF.fld_64_0 rfl) ?_
  refine TL_q rfl rfl (QT_load 2 rfl rfl Tryd.underlying5 rfl rfl rfl (fun _ => hf)) ?_
  refine TL_q rfl rfl (QT_gtr rfl rfl rfl rfl) ?_
  refine TL_nil ?_
  refine TX_then ?_
  refine TC_cond rfl (fun _ => ?_) (fun h => absurd (h.symm.trans ((decide_eq_true (by omega)))) (by decide))
  refine TC_seq ?_
  refine TC_reg ?_
  refine TL_q rfl rfl (QT_field rfl rfl YtjipbndjcefbbaaDoorF.fld_64_0 rfl) ?_
  refine TL_q rfl rfl (QT_load 2 rfl rfl Tryd.underlying5 rfl rfl rfl (fun _ => hf)) ?_
  refine TL_q rfl rfl (QT_indexArr (f) rfl rfl Tryd.underlying145 YtjipbndjcefbbaaDoorF.sz_144 rfl rfl (rfl) (fun _ => by omega)) ?_
  refine TL_q rfl rfl (QT_loadRAj (f * 6) rfl rfl Tryd.underlying144 rfl YtjipbndjcefbbaaDoorF.sz_144 (hR _) rfl (fun _ => show f * 6 + 6 ≤ 24 by omega) (fun _ => edges_row f h1 h3)) ?_
  refine TL_e rfl rfl rfl (rfl) (ET_alloc rfl YtjipbndjcefbbaaDoorF.zero_144) ?_
  rintro _ _ ⟨b9, rfl, rfl⟩
  refine TL_e0 rfl rfl (rfl) (ET_storeW (vs := erow f) 0 rfl rfl rfl YtjipbndjcefbbaaDoorF.sz_144 rfl rfl rfl) ?_
  rintro _ _ ⟨rfl, rfl⟩
  refine TL_nil ?_
  refine TX_then ?_
  refine TC_seq ?_
  refine TC_seq ?_
  refine TC_reg ?_
  refine TL_q rfl rfl (QT_field rfl rfl YtjipbndjcefbbaaDoorF.fld_144_0 rfl) ?_
  refine TL_q rfl rfl (QT_field rfl rfl YtjipbndjcefbbaaDoorF.fld_141_0 rfl) ?_
  first
    | refine TL_q rfl rfl (QT_loadW 0 rfl rfl Tryd.underlying139 rfl rfl rfl YtjipbndjcefbbaaDoorF.sz_139) ?_
    | refine TL_q rfl rfl (QT_loadW 1 rfl rfl Tryd.underlying139 rfl rfl rfl YtjipbndjcefbbaaDoorF.sz_139) ?_
    | refine TL_q rfl rfl (QT_loadW 2 rfl rfl Tryd.underlying139 rfl rfl rfl YtjipbndjcefbbaaDoorF.sz_139) ?_
    | refine TL_q rfl rfl (QT_loadA 0 rfl rfl Tryd.underlying139 rfl rfl rfl YtjipbndjcefbbaaDoorF.sz_139 (fun _ => rfl)) ?_
    | refine TL_q rfl rfl (QT_loadA 1 rfl rfl Tryd.underlying139 rfl rfl rfl YtjipbndjcefbbaaDoorF.sz_139 (fun _ => rfl)) ?_
    | refine TL_q rfl rfl (QT_loadA 2 rfl rfl Tryd.underlying139 rfl rfl rfl YtjipbndjcefbbaaDoorF.sz_139 (fun _ => rfl)) ?_
  refine TL_q rfl rfl (QT_move rfl rfl rfl) ?_
  refine TL_nil ?_
  refine TX_then ?_
  refine TC_block ?_
  refine TC_loop (γ := { i : Nat // i ≤ 4 }) (fun t => [(2, true, .int .i64 (pts : Int)), (3, true, .pointer (some ⟨b3, 0, none⟩)), (4, true, .pointer (some ⟨b4, 0, none⟩)), (6, true, .pointer (some ⟨b6, 0, none⟩)), (9, true, .pointer (some ⟨b9, 0, none⟩)), (23, true, .agg (((erow f).drop (0 + 0 + 0)).take 4).toArray), (24, true, .int .i64 (t.1 : Int))]) (fun t => St w0 ((b9, 144, erow f) :: (b6, 66, ptsTo ah f t.1) :: (b4, 66, ah) :: (b3, 64, s) :: η)) (fun t => 4 - t.1) ⟨0, by omega⟩ ⟨rfl, rfl, rfl, rfl, rfl, rfl, rfl, trivial⟩ (fun _ h => h) ?_
  rintro ⟨i, hi⟩
  dsimp only
  refine TC_seq ?_
  refine TC_reg ?_
  refine TL_q rfl rfl (QT_lss rfl rfl rfl rfl) ?_
  refine TL_nil ?_
  refine TX_then ?_
  refine TC_seq ?_
  first
    | refine TC_cond_dec rfl (fun h25 => ?_) (fun h25 => ?_)
    | refine TC_cond rfl (fun h25 => ?_) (fun h25 => ?_)
  ·
    have hi' : i < 4 := by omega
    have hrow : (((erow f).drop (0 + 0 + 0)).take 4)[i]? = some (.int .i64 ((eP f i : Nat) : Int)) := by
      match i, hi' with
      | 0, _ => rfl
      | 1, _ => rfl
      | 2, _ => rfl
      | 3, _ => rfl
    have hel := eP_lt f i
    have hpl := part_len ah (0 + 0 + eP f i * 2) 2 (by omega)
    have hql := ptsTo_len ah f i
    refine TC_skip ?_
    refine TX_then ?_
    refine TC_seq ?_
    refine TC_block ?_
    refine TC_seq ?_
    refine TC_reg ?_
    refine TL_q rfl rfl (QT_move rfl rfl rfl) ?_
    refine TL_q rfl rfl (QT_indexV i rfl rfl Tryd.underlying139 Tryd.underlying3 rfl YtjipbndjcefbbaaDoorF.sz_3 rfl rfl rfl (fun _ => hi') (fun _ => hrow)) ?_
    refine TL_q rfl rfl (QT_assign rfl rfl rfl) ?_
    refine TL_q rfl rfl (QT_assign rfl rfl rfl) ?_
    refine TL_nil ?_
    refine TX_then ?_
    refine TC_reg ?_
    refine TL_q rfl rfl (QT_move rfl rfl rfl) ?_
    refine TL_q rfl rfl (QT_move rfl rfl rfl) ?_
    refine TL_q rfl rfl (QT_field rfl rfl YtjipbndjcefbbaaDoorF.fld_66_0 rfl) ?_
    refine TL_q rfl rfl (QT_indexArr (eP f i) rfl rfl Tryd.underlying58 YtjipbndjcefbbaaDoorF.sz_57 rfl rfl (rfl) (fun _ => by omega)) ?_
    refine TL_q rfl rfl (QT_loadA 2 rfl rfl Tryd.underlying57 rfl rfl rfl YtjipbndjcefbbaaDoorF.sz_57 (fun _ => Nat.ble_eq_true_of_le (show 0 + 0 + eP f i * 2 + 2 ≤ ah.length by omega))) ?_
    refine TL_q rfl rfl (QT_field rfl rfl YtjipbndjcefbbaaDoorF.fld_66_0 rfl) ?_
    refine TL_q rfl rfl (QT_indexArr (i) rfl rfl Tryd.underlying58 YtjipbndjcefbbaaDoorF.sz_57 rfl rfl (rfl) (fun _ => by omega)) ?_
    refine TL_e0 rfl rfl (rfl) (ET_store (vs := (ah.drop (0 + 0 + eP f i * 2)).take 2) 1 rfl rfl rfl rfl (by rw [hpl]; exact YtjipbndjcefbbaaDoorF.sz_57) rfl (all_part ha _ _) (Nat.ble_eq_true_of_le (by rw [hpl, hql]; omega))) ?_
    rintro _ _ ⟨rfl, rfl⟩
    refine TL_nil ?_
    refine TX_block_normal ?_
    refine TX_then ?_
    refine TC_reg ?_
    refine TL_q rfl rfl (QT_add rfl rfl rfl rfl (fun _ => ⟨by omega, by omega⟩)) ?_
    refine TL_q rfl rfl (QT_move rfl rfl rfl) ?_
    refine TL_nil ?_
    exact TX_round ⟨i + 1, by omega⟩ (by show 4 - (i + 1) < 4 - i; omega) ⟨rfl, rfl, rfl, rfl, rfl, rfl, rfl, trivial⟩ (fun _ h => h)
  ·
    refine TC_exit ?_
    refine TX_then_exit ?_
    refine TX_then_exit ?_
    refine TX_block_here ?_
    refine TX_then ?_
    refine TC_seq ?_
    refine TC_seq ?_
    obtain rfl : i = 4 := by omega
    refine TC_reg ?_
    refine TL_q rfl rfl (QT_field rfl rfl YtjipbndjcefbbaaDoorF.fld_144_1 rfl) ?_
    first
      | refine TL_q rfl rfl (QT_loadW 0 rfl rfl Tryd.underlying142 rfl rfl rfl YtjipbndjcefbbaaDoorF.sz_142) ?_
      | refine TL_q rfl rfl (QT_loadW 1 rfl rfl Tryd.underlying142 rfl rfl rfl YtjipbndjcefbbaaDoorF.sz_142) ?_
      | refine TL_q rfl rfl (QT_loadW 2 rfl rfl Tryd.underlying142 rfl rfl rfl YtjipbndjcefbbaaDoorF.sz_142) ?_
      | refine TL_q rfl rfl (QT_loadA 0 rfl rfl Tryd.underlying142 rfl rfl rfl YtjipbndjcefbbaaDoorF.sz_142 (fun _ => rfl)) ?_
      | refine TL_q rfl rfl (QT_loadA 1 rfl rfl Tryd.underlying142 rfl rfl rfl YtjipbndjcefbbaaDoorF.sz_142 (fun _ => rfl)) ?_
      | refine TL_q rfl rfl (QT_loadA 2 rfl rfl Tryd.underlying142 rfl rfl rfl YtjipbndjcefbbaaDoorF.sz_142 (fun _ => rfl)) ?_
    refine TL_q rfl rfl (QT_move rfl rfl rfl) ?_
    refine TL_nil ?_
    refine TX_then ?_
    refine TC_block ?_
    refine TC_loop (γ := { i : Nat // i ≤ 2 }) (fun t => [(2, true, .int .i64 (pts : Int)), (3, true, .pointer (some ⟨b3, 0, none⟩)), (4, true, .pointer (some ⟨b4, 0, none⟩)), (6, true, .pointer (some ⟨b6, 0, none⟩)), (37, true, .agg (((erow f).drop (0 + 4)).take 2).toArray), (38, true, .int .i64 (t.1 : Int))]) (fun t => St w0 ((b9, 144, erow f) :: (b6, 66, colTo ah f t.1) :: (b4, 66, ah) :: (b3, 64, s) :: η)) (fun t => 2 - t.1) ⟨0, by omega⟩ ⟨rfl, rfl, rfl, rfl, rfl, rfl, trivial⟩ (fun _ h => h) ?_
    rintro ⟨i, hi⟩
    dsimp only
    refine TC_seq ?_
    refine TC_reg ?_
    refine TL_q rfl rfl (QT_lss rfl rfl rfl rfl) ?_
    refine TL_nil ?_
    refine TX_then ?_
    refine TC_seq ?_
    first
      | refine TC_cond_dec rfl (fun h39 => ?_) (fun h39 => ?_)
      | refine TC_cond rfl (fun h39 => ?_) (fun h39 => ?_)
    ·
      have hi' : i < 2 := by omega
      have hrow : (((erow f).drop (0 + 4)).take 2)[i]? = some (.int .i64 ((eC f i : Nat) : Int)) := by
        match i, hi' with
        | 0, _ => rfl
        | 1, _ => rfl
      have hel := eC_lt f i
      have hpl := part_len ah (0 + 32 + eC f i * 4) 4 (by omega)
      have hql := colTo_len ah f i
      refine TC_skip ?_
      refine TX_then ?_
      refine TC_seq ?_
      refine TC_block ?_
      refine TC_seq ?_
      refine TC_reg ?_
      refine TL_q rfl rfl (QT_move rfl rfl rfl) ?_
      refine TL_q rfl rfl (QT_indexV i rfl rfl Tryd.underlying142 Tryd.underlying3 rfl YtjipbndjcefbbaaDoorF.sz_3 rfl rfl rfl (fun _ => hi') (fun _ => hrow)) ?_
      refine TL_q rfl rfl (QT_assign rfl rfl rfl) ?_
      refine TL_q rfl rfl (QT_assign rfl rfl rfl) ?_
      refine TL_nil ?_
      refine TX_then ?_
      refine TC_reg ?_
      refine TL_q rfl rfl (QT_move rfl rfl rfl) ?_
      refine TL_q rfl rfl (QT_move rfl rfl rfl) ?_
      refine TL_q rfl rfl (QT_field rfl rfl YtjipbndjcefbbaaDoorF.fld_66_1 rfl) ?_
      refine TL_q rfl rfl (QT_indexArr (eC f i) rfl rfl Tryd.underlying62 YtjipbndjcefbbaaDoorF.sz_61 rfl rfl (rfl) (fun _ => by omega)) ?_
      refine TL_q rfl rfl (QT_loadA 2 rfl rfl Tryd.underlying61 rfl rfl rfl YtjipbndjcefbbaaDoorF.sz_61 (fun _ => Nat.ble_eq_true_of_le (show 0 + 32 + eC f i * 4 + 4 ≤ ah.length by omega))) ?_
      refine TL_q rfl rfl (QT_field rfl rfl YtjipbndjcefbbaaDoorF.fld_66_1 rfl) ?_
      refine TL_q rfl rfl (QT_indexArr (i) rfl rfl Tryd.underlying62 YtjipbndjcefbbaaDoorF.sz_61 rfl rfl (rfl) (fun _ => by omega)) ?_
      refine TL_e0 rfl rfl (rfl) (ET_store (vs := (ah.drop (0 + 32 + eC f i * 4)).take 4) 1 rfl rfl rfl rfl (by rw [hpl]; exact YtjipbndjcefbbaaDoorF.sz_61) rfl (all_part ha _ _) (Nat.ble_eq_true_of_le (by rw [hpl, hql]; omega))) ?_
      rintro _ _ ⟨rfl, rfl⟩
      refine TL_nil ?_
      refine TX_block_normal ?_
      refine TX_then ?_
      refine TC_reg ?_
      refine TL_q rfl rfl (QT_add rfl rfl rfl rfl (fun _ => ⟨by omega, by omega⟩)) ?_
      refine TL_q rfl rfl (QT_move rfl rfl rfl) ?_
      refine TL_nil ?_
      exact TX_round ⟨i + 1, by omega⟩ (by show 2 - (i + 1) < 2 - i; omega) ⟨rfl, rfl, rfl, rfl, rfl, rfl, trivial⟩ (fun _ h => h)
    ·
      refine TC_exit ?_
      refine TX_then_exit ?_
      refine TX_then_exit ?_
      refine TX_block_here ?_
      refine TX_then ?_
      obtain rfl : i = 2 := by omega
      refine TC_reg ?_
      refine TL_q rfl rfl (QT_assign rfl rfl rfl) ?_
      refine TL_q rfl rfl (QT_assign rfl rfl rfl) ?_
      refine TL_nil ?_
      refine TX_then ?_
      refine TC_seq ?_
      refine TC_draw [(0, 0), (1, 0), (2, 0), (3, 0), (4, 0), (5, 0), (6, 1)] YtjipbndjcefbbaaDoorF.mixed (by kernel_rfl) (St.calm _ _) ?_
      have hcl := colTo_len ah f 2
      refine TV_q rfl rfl rfl (fun _ => QT_field rfl rfl YtjipbndjcefbbaaDoorF.fld_66_0 rfl) ?_
      refine TV_q rfl rfl rfl (fun _ => QT_move rfl rfl rfl) ?_
      refine TV_q rfl rfl rfl (fun _ => QT_move rfl rfl rfl) ?_
      refine TV_q rfl rfl rfl (fun _ => QT_slaLH (4) (pts) rfl rfl rfl Tryd.underlying58 YtjipbndjcefbbaaDoorF.sz_57 rfl rfl rfl rfl rfl (fun _ => ⟨by omega, by omega, by omega⟩)) ?_
      refine TV_q rfl rfl rfl (fun _ => QT_field rfl rfl YtjipbndjcefbbaaDoorF.fld_64_1 rfl) ?_
      refine TV_q rfl rfl rfl (fun _ => QT_slaA  rfl rfl rfl rfl rfl Tryd.underlying58 YtjipbndjcefbbaaDoorF.sz_57 rfl ) ?_
      refine TV_e rfl rfl rfl rfl (rfl) (ET_copy (news := (s.drop (0 + 1)).take (16 * 2)) 1 rfl Tryd.underlying146 YtjipbndjcefbbaaDoorF.sz_57 rfl rfl rfl (SlA.own (n := 16) 3 rfl rfl (show 0 + 1 + 16 * 2 ≤ s.length by omega) (by omega)) (fun u hu => hs.oneCell u (List.mem_of_mem_drop (List.mem_of_mem_take hu))) (show 0 + 0 + 4 * 2 + min 16 (pts - 4) * 2 ≤ (colTo ah f 2).length by omega)) ?_
      rintro _ _ ⟨rfl, rfl⟩
      refine ⟨_, .nil, ?_⟩
      refine TV_end ?_
      refine TX_then ?_
      refine TC_seq ?_
      refine TC_draw [(0, 0), (1, 0), (2, 0), (3, 0), (4, 0), (5, 1)] YtjipbndjcefbbaaDoorF.mixed (by kernel_rfl) (St.calm _ _) ?_
      refine TV_q rfl rfl rfl (fun _ => QT_field rfl rfl YtjipbndjcefbbaaDoorF.fld_66_1 rfl) ?_
      refine TV_q rfl rfl rfl (fun _ => QT_move rfl rfl rfl) ?_
      refine TV_q rfl rfl rfl (fun _ => QT_slaL (2) rfl rfl rfl rfl Tryd.underlying62 YtjipbndjcefbbaaDoorF.sz_61 rfl rfl rfl (fun _ => by omega)) ?_
      refine TV_q rfl rfl rfl (fun _ => QT_field rfl rfl YtjipbndjcefbbaaDoorF.fld_64_2 rfl) ?_
      refine TV_q rfl rfl rfl (fun _ => QT_slaA  rfl rfl rfl rfl rfl Tryd.underlying62 YtjipbndjcefbbaaDoorF.sz_61 rfl ) ?_
      refine TV_e rfl rfl rfl rfl (rfl) (ET_copy (news := (s.drop (0 + 33)).take (4 * 4)) 1 rfl Tryd.underlying147 YtjipbndjcefbbaaDoorF.sz_61 rfl rfl rfl (SlA.own (n := 4) 3 rfl rfl (show 0 + 33 + 4 * 4 ≤ s.length by omega) (by omega)) (fun u hu => hs.oneCell u (List.mem_of_mem_drop (List.mem_of_mem_take hu))) (by rw [setAt_length]; show 0 + 32 + 2 * 4 + min 4 (4 - 2) * 4 ≤ (colTo ah f 2).length; omega)) ?_
      rintro _ _ ⟨rfl, rfl⟩
      refine ⟨_, .nil, ?_⟩
      refine TV_end ?_
      refine TX_then ?_
      refine TC_seq ?_
      refine TC_A (St w0 ((b9, 144, erow f) :: (b6, 66, wholeC pts f s ah) :: (b4, 66, ah) :: (b3, 64, s) :: η)) (fun w h => by rw [← whole_eqE hsl hal hp (show f = 1 ∨ f = 2 ∨ f = 3 by omega)]; exact h) ?_
      refine TC_reg ?_
      refine TL_q rfl rfl (QT_loadW 1 rfl rfl Tryd.underlying66 rfl rfl rfl hsz) ?_
      refine TL_e0 rfl rfl (rfl) (ET_storeW 1 rfl rfl rfl hsz rfl (List.all_eq_true.2 hwi.oneCell) (Nat.beq_refl _)) ?_
      rintro _ _ ⟨rfl, rfl⟩
      refine TL_nil ?_
      refine TX_then ?_
      refine TC_ret ?_
      exact TX_ret (.inl rfl) (resC 1 rfl rfl Tryd.underlying66 rfl rfl hsz) ⟨_, ⟨rfl, rfl⟩, (fun _ h => by first | exact h | exact h.tail | exact h.tail.tail | exact h.tail.tail.tail | exact h.tail.tail.tail.tail | exact h.tail.tail.tail.tail.tail | exact h.tail.tail.tail.tail.tail.tail | exact h.tail.tail.tail.tail.tail.tail.tail | exact h.tail.tail.tail.tail.tail.tail.tail.tail | exact h.tail.tail.tail.tail.tail.tail.tail.tail.tail | exact h.tail.tail.tail.tail.tail.tail.tail.tail.tail.tail | exact h.tail.tail.tail.tail.tail.tail.tail.tail.tail.tail.tail | exact h.tail.tail.tail.tail.tail.tail.tail.tail.tail.tail.tail.tail | exact h.tail.tail.tail.tail.tail.tail.tail.tail.tail.tail.tail.tail.tail)⟩
theorem whole_spec (w0 : World) (η : Heap) (hE : Edges w0) (s ah : List Value) (pts f : Nat) (hs : Ints sheetK s) (ha : Ints patchK ah) (hp : pts = 12 ∨ pts = 16) (hf : s[0]? = some (.int .u8 (f : Int))) (h3 : f ≤ 3) :
    CallsT Tryd.prog 23 [.agg s.toArray, .agg ah.toArray, .int .i64 (pts : Int)] (St w0 η) fun v A' => v = .agg (wholeC pts f s ah).toArray ∧ A' = St w0 η := by
  by_cases h0 : f = 0
  · subst h0; exact whole_0 w0 η s ah pts hs ha hp hf
  · exact whole_e w0 η hE s ah pts f hs ha hp hf (by omega) h3
end Go.Proofs.YtjipbndjcefbbaaDoor

/- THE ROW AND THE TIED CARD: what a sheet does not tell counts nowhere: points and colours beyond its own make no difference. No condition but the row's own. -/
import Derived.Test.YtjipbndjcefbbaaDoorT12h
import Derived.Test.YtjipbndjcefbbaaDoorT12o
import Derived.Test.YtjipbndjcefbbaaDoorCards
import Derived.Test.YtjipbndjcefbbaaDoorTie
namespace Go.Proofs.YtjipbndjcefbbaaDoor
open Go Go.Gx Go.RowKit Go.ChangeShapes Go.WideShapes Go.ChangeAt
set_option maxRecDepth 100000

theorem tilesUntold_params : ([27, 28, 64].all fun t => Tryd.prog.readableRec t && decide (t < Tryd.prog.types.size)) = true := by kernel_rfl
theorem tilesUntold_lifted (os : Os) (started : os.Started) (H : Type) (enc : TypeId × Value → H) :
    ReturnsInHanded {} Tryd.checked os 6 .any (fun w args => (Rows.tilesUntoldSpec.pre enc Tryd.prog Tryd.f6 [] false w args ∧ laidMetH Tryd.prog laid12 w) ∧ sizedMet enc Tryd.prog Tryd.f6 (OpenSpec.ofChange Rows.tilesUntoldSpec) false w args)
      (Rows.tilesUntoldSpec.post enc Tryd.prog Tryd.f6 false true false false) := by
  refine returnsInHanded_of_change_and (C := Tryd.checked) (X := fun w _ => laidMetH Tryd.prog laid12 w) (fun _ _ _ hh h => h.of_heap hh) own started (by kernel_rfl) Tryd.func6
    (ChangeSpec.witness_shaped (enc := enc) (C := Tryd.checked) (os := os) (X := fun w _ => laidMetH Tryd.prog laid12 w) false (World.doorLaid Tryd.prog 400 os) #[.agg layZ.toArray, .slice none 0 0, .agg (zs sheetK).toArray] 8 rfl (World.shaped_of_RefB (by kernel_rfl) (by kernel_rfl)) (by kernel_rfl) (by kernel_rfl) (by kernel_rfl) (door12 os _)) ?_
  intro W base args ds gs before hval0 hW _ hwt hL _
  have hval : ∀ (j : Nat) t v, Tryd.f6.params[j]? = some t → args[j]? = some v → Value.okWide Tryd.prog W .any base t v := hval0
  have hW' := hW
  obtain ⟨p, q, hA0, hV, rfl, hfz, hnd⟩ := hW
  have hA : DataW.TrodAll enc Tryd.prog W 0 (fun _ => true) true Tryd.f6.params.toList args.toList ds p := hA0
  rw [Tryd.params6] at hA hval
  rw [Tryd.params6] at hwt
  obtain ⟨v0, vs1, d0, ds1, p0, q1, ea0, rfl, rfl, h0, hA1_⟩ := trodAll_cons hA
  obtain ⟨v1, vs2, d1, ds2, p1, q2, rfl, rfl, rfl, h1, hA2_⟩ := trodAll_cons hA1_
  obtain ⟨v2, vs3, d2, ds3, p2, q3, rfl, rfl, rfl, h2, hA3_⟩ := trodAll_cons hA2_
  obtain ⟨rfl, rfl, rfl⟩ := trodAll_nil hA3_
  have eargs : args = #[v0, v1, v2] := by simpa using congrArg List.toArray ea0
  subst eargs
  obtain ⟨rfl, rfl⟩ := trodVars_none hV
  have hv0 := hval 0 27 v0 rfl rfl
  obtain ⟨L, rfl, _⟩ := open_lay hv0 h0
  have hv1 := hval 1 28 v1 rfl rfl
  have hsz1 : ∀ m ∈ d1.weights Tryd.prog 28, m ≤ reachBytes := fun m hm => of_decide_eq_true (List.all_eq_true.1 hwt m (DataW.weights_mem_each (j := 1) rfl rfl m hm))
  obtain ⟨n, xs, hs, hi, hn⟩ := open_slw Tryd.underlying28 flat_Sheet (by decide) (show Tryd.prog.bytesOf 64 = 164 by kernel_rfl) hv1 h1 hsz1
  have hv2 := hval 2 64 v2 rfl rfl
  obtain ⟨x, rfl, hx⟩ := open_flat Tryd.underlying64 flat_Sheet hv2 h2
  refine (law_end (law_tilesUntold W [] (sets12 hL) (edges12 hL) L _ n xs x hs hi hx)).mono fun e W' ⟨he, hb⟩ => ?_
  subst he
  exact ⟨_, rfl, _, _, _, [], _, [], hW', trodAll_mk1 (shut_bool Tryd.underlying4 true), trodAll_stay laidOut hb _ _ _ _ tilesUntold_params hA (fun x hx => by simpa using hW'.lt x (by simpa using hx)), rfl, hb.frame _, fun h => by cases h⟩

theorem tilesUntold_holds : Rows.TilesUntoldSaid :=
  OpenClaim.holds_of_wide 6 Tryd.f6 rfl rfl rfl rfl rfl rfl rfl ⟨rfl, rfl, rfl, rfl, rfl⟩ rfl rfl rfl rfl rfl (by kernel_rfl) Tryd.func6 (by kernel_rfl)
    (of_decide_eq_true (by kernel_rfl)) (by unfold Func.isWrapper; first | (rw [if_pos (by decide +kernel)]; kernel_rfl) | (rw [if_neg (by decide +kernel)]; exact ⟨rfl, rfl⟩))
    (fun os started H enc _ => tilesUntold_lifted os started H enc)

theorem tilesUntold_card : Rows.TilesUntoldCardSaid :=
  Claim7.holds_tied_plain_at .later [] [.data, .data] true (true, "de27509d325037469470173d53561b8951460573dea093a1ffb9aa3887d1f0d2") false
    tilesUntold_holds (fun _ h => by cases h) (by kernel_rfl) (fun _ h => by cases h) tilesUntold_row_tie rfl ⟨rfl, rfl⟩ (by kernel_rfl) rfl
    (fun f fn hf hfn => by
      obtain rfl : f = 6 := Option.some.inj ((show Tryd.prog.funcNamed "gouache/gouachelaw12.TilesUntold" = some 6 by kernel_rfl).symm.trans hf) |>.symm
      obtain rfl : fn = Tryd.f6 := (Option.some.inj (Tryd.func6.symm.trans hfn)).symm
      exact ⟨by kernel_rfl, fun j t ht => by
        rw [Tryd.params6] at ht
        have hm : t ∈ [27, 28, 64] := by simpa using Array.mem_of_getElem? ht
        have hall : ([27, 28, 64].all fun u => !Tryd.prog.wantsStandIn u) = true := by kernel_rfl
        exact (show Tryd.prog.wantsStandIn t = false by simpa using List.all_eq_true.1 hall t hm)⟩)
    (by kernel_rfl)
end Go.Proofs.YtjipbndjcefbbaaDoor

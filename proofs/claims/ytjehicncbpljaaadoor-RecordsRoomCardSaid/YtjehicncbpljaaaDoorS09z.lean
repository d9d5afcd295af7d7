/- THE ROW AND THE TIED CARD: a record that tells anything that it has no room for is refused, wherever it stands. No condition but the row's own. -/
import Derived.Test.YtjehicncbpljaaaDoorS09v
import Derived.Test.YtjehicncbpljaaaDoorS09o
import Derived.Test.YtjehicncbpljaaaDoorCards
import Derived.Test.YtjehicncbpljaaaDoorTie
namespace Go.Proofs.YtjehicncbpljaaaDoor
open Go Go.Gx Go.RowKit Go.ChangeShapes Go.WideShapes Go.ChangeAt
set_option maxRecDepth 100000

theorem recordsRoom_params : ([27, 31, 70].all fun t => Tryd.prog.readableRec t && decide (t < Tryd.prog.types.size)) = true := by kernel_rfl
theorem recordsRoom_lifted (os : Os) (started : os.Started) (H : Type) (enc : TypeId × Value → H) :
    ReturnsInHanded {} Tryd.checked os 8 .any (fun w args => (Rows.recordsRoomSpec.pre enc Tryd.prog Tryd.f8 [] false w args ∧ laidMetH Tryd.prog laid09 w) ∧ sizedMet enc Tryd.prog Tryd.f8 (OpenSpec.ofChange Rows.recordsRoomSpec) false w args)
      (Rows.recordsRoomSpec.post enc Tryd.prog Tryd.f8 false true false false) := by
  refine returnsInHanded_of_change_and (C := Tryd.checked) (X := fun w _ => laidMetH Tryd.prog laid09 w) (fun _ _ _ hh h => h.of_heap hh) own started (by kernel_rfl) Tryd.func8
    (ChangeSpec.witness_shaped (enc := enc) (C := Tryd.checked) (os := os) (X := fun w _ => laidMetH Tryd.prog laid09 w) false (World.doorLaid Tryd.prog 400 os) #[.agg layZ.toArray, .slice none 0 0, .agg #[.int .u8 0, .int .u8 0]] 8 rfl (World.shaped_of_RefB (by kernel_rfl) (by kernel_rfl)) (by kernel_rfl) (by kernel_rfl) (by kernel_rfl) (door09 os _)) ?_
  intro W base args ds gs before hval0 hW _ hwt hL _
  have hval : ∀ (j : Nat) t v, Tryd.f8.params[j]? = some t → args[j]? = some v → Value.okWide Tryd.prog W .any base t v := hval0
  have hW' := hW
  obtain ⟨p, q, hA0, hV, rfl, hfz, hnd⟩ := hW
  have hA : DataW.TrodAll enc Tryd.prog W 0 (fun _ => true) true Tryd.f8.params.toList args.toList ds p := hA0
  rw [Tryd.params8] at hA hval
  rw [Tryd.params8] at hwt
  obtain ⟨v0, vs1, d0, ds1, p0, q1, ea0, rfl, rfl, h0, hA1_⟩ := trodAll_cons hA
  obtain ⟨v1, vs2, d1, ds2, p1, q2, rfl, rfl, rfl, h1, hA2_⟩ := trodAll_cons hA1_
  obtain ⟨v2, vs3, d2, ds3, p2, q3, rfl, rfl, rfl, h2, hA3_⟩ := trodAll_cons hA2_
  obtain ⟨rfl, rfl, rfl⟩ := trodAll_nil hA3_
  have eargs : args = #[v0, v1, v2] := by simpa using congrArg List.toArray ea0
  subst eargs
  obtain ⟨rfl, rfl⟩ := trodVars_none hV
  have hv0 := hval 0 27 v0 rfl rfl
  obtain ⟨L, rfl, _⟩ := open_lay hv0 h0
  have hv1 := hval 1 31 v1 rfl rfl
  have hsz1 : ∀ m ∈ d1.weights Tryd.prog 31, m ≤ reachBytes := fun m hm => of_decide_eq_true (List.all_eq_true.1 hwt m (DataW.weights_mem_each (j := 1) rfl rfl m hm))
  obtain ⟨n, xs, hs0, hi0, _⟩ := open_slw Tryd.underlying31 flat_RecR (by decide) (show Tryd.prog.bytesOf 67 = 20 by kernel_rfl) hv1 h1 hsz1
  obtain ⟨rs, _, hs, hr⟩ := open_recsR hs0 hi0
  have hv2 := hval 2 70 v2 rfl rfl
  obtain ⟨x, y, rfl, hx, hx2⟩ := open_twoR Tryd.underlying70 (by kernel_rfl) hv2 h2
  refine (law_end (law_recordsRoom W [] (sets09 hL) L _ rs x y hs hr hx hx2)).mono fun e W' ⟨he, hb⟩ => ?_
  subst he
  exact ⟨_, rfl, _, _, _, [], _, [], hW', trodAll_mk1 (shut_bool Tryd.underlying4 true), trodAll_stay laidOut hb _ _ _ _ recordsRoom_params hA (fun x hx => hW'.lt x (by revert hx; simp)), rfl, hb.frame _, fun h => by cases h⟩

theorem recordsRoom_holds : Rows.RecordsRoomSaid :=
  OpenClaim.holds_of_wide 8 Tryd.f8 rfl rfl rfl rfl rfl rfl rfl ⟨rfl, rfl, rfl, rfl, rfl⟩ rfl rfl rfl rfl rfl (by kernel_rfl) Tryd.func8 (by kernel_rfl)
    (of_decide_eq_true (by kernel_rfl)) (by unfold Func.isWrapper; first | (rw [if_pos (by decide +kernel)]; kernel_rfl) | (rw [if_neg (by decide +kernel)]; exact ⟨rfl, rfl⟩))
    (fun os started H enc _ => recordsRoom_lifted os started H enc)

theorem recordsRoom_card : Rows.RecordsRoomCardSaid :=
  Claim7.holds_tied_plain_at .later [] [.data] true (true, "f4e39ec7ef2079839cd6fbb4deebf43a81b2cb0e610519870cbf60ab8afaa0d2") false
    recordsRoom_holds (fun _ h => by cases h) (by kernel_rfl) (fun _ h => by cases h) recordsRoom_row_tie rfl ⟨rfl, rfl⟩ (by kernel_rfl) rfl
    (fun f fn hf hfn => by
      obtain rfl : f = 8 := Option.some.inj ((show Tryd.prog.funcNamed "gouache/gouachelaw09.RecordsRoom" = some 8 by kernel_rfl).symm.trans hf) |>.symm
      obtain rfl : fn = Tryd.f8 := (Option.some.inj (Tryd.func8.symm.trans hfn)).symm
      exact ⟨by kernel_rfl, fun j t ht => by
        rw [Tryd.params8] at ht
        have hm : t ∈ [27, 31, 70] := by simpa using Array.mem_of_getElem? ht
        have hall : ([27, 31, 70].all fun u => !Tryd.prog.wantsStandIn u) = true := by kernel_rfl
        exact (show Tryd.prog.wantsStandIn t = false by simpa using List.all_eq_true.1 hall t hm)⟩)
    (by kernel_rfl)
end Go.Proofs.YtjehicncbpljaaaDoor

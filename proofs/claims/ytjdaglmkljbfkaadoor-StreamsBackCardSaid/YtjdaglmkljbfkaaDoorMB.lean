/- THE ROW AND THE TIED CARD: what may be encoded is decoded as it was, for any layout and any mesh. No condition but the row's own. -/
import Derived.Test.YtjdaglmkljbfkaaDoorM06
import Derived.Test.YtjdaglmkljbfkaaDoorCards
import Derived.Test.YtjdaglmkljbfkaaDoorTie
namespace Go.Proofs.YtjdaglmkljbfkaaDoor
open Go Go.Gx Go.RowKit Go.ChangeShapes Go.WideShapes Go.ChangeAt
set_option maxRecDepth 100000

theorem streamsBack_params : ([27, 33].all fun t => Tryd.prog.readableRec t && decide (t < Tryd.prog.types.size)) = true := by kernel_rfl
theorem streamsBack_lifted (os : Os) (started : os.Started) (H : Type) (enc : TypeId × Value → H) :
    ReturnsInHanded {} Tryd.checked os 5 .any (fun w args => (Rows.streamsBackSpec.pre enc Tryd.prog Tryd.f5 [] false w args ∧ laidMetH Tryd.prog T12.laid12 w) ∧ sizedMet enc Tryd.prog Tryd.f5 (OpenSpec.ofChange Rows.streamsBackSpec) false w args)
      (Rows.streamsBackSpec.post enc Tryd.prog Tryd.f5 false true false false) := by
  refine returnsInHanded_of_change_and (C := Tryd.checked) (X := fun w _ => laidMetH Tryd.prog T12.laid12 w) (fun _ _ _ hh h => h.of_heap hh) own started (by kernel_rfl) Tryd.func5
    (ChangeSpec.witness_shaped (enc := enc) (C := Tryd.checked) (os := os) (X := fun w _ => laidMetH Tryd.prog T12.laid12 w) false (World.doorLaid Tryd.prog 400 os) #[.agg layZ.toArray, .agg #[.slice none 0 0, .slice none 0 0]] 8 rfl (World.shaped_of_RefB (by kernel_rfl) (by kernel_rfl)) (by kernel_rfl) (by kernel_rfl) (by kernel_rfl) (T12.door12 os _)) ?_
  intro W base args ds gs before hval0 hW _ hwt hL _
  have hval : ∀ (j : Nat) t v, Tryd.f5.params[j]? = some t → args[j]? = some v → Value.okWide Tryd.prog W .any base t v := hval0
  have hW' := hW
  obtain ⟨p, q, hA0, hV, rfl, hfz, hnd⟩ := hW
  have hA : DataW.TrodAll enc Tryd.prog W 0 (fun _ => true) true Tryd.f5.params.toList args.toList ds p := hA0
  rw [Tryd.params5] at hA hval
  rw [Tryd.params5] at hwt
  obtain ⟨v0, vs1, d0, ds1, p0, q1, ea0, rfl, rfl, h0, hA1_⟩ := trodAll_cons hA
  obtain ⟨v1, vs2, d1, ds2, p1, q2, rfl, rfl, rfl, h1, hA2_⟩ := trodAll_cons hA1_
  obtain ⟨rfl, rfl, rfl⟩ := trodAll_nil hA2_
  have eargs : args = #[v0, v1] := by simpa using congrArg List.toArray ea0
  subst eargs
  obtain ⟨rfl, rfl⟩ := trodVars_none hV
  have hv0 := hval 0 27 v0 rfl rfl
  obtain ⟨L, rfl, _⟩ := open_lay hv0 h0
  have hv1 := hval 1 33 v1 rfl rfl
  have hsz1 : ∀ m ∈ d1.weights Tryd.prog 33, m ≤ reachBytes := fun m hm => of_decide_eq_true (List.all_eq_true.1 hwt m (DataW.weights_mem_each (j := 1) rfl rfl m hm))
  obtain ⟨rv, tv, rs, ss, rfl, hs, hr, ht, hq⟩ := open_mesh hv1 h1 hsz1
  refine (law_end (law_streamsBack W [] (T12.sets12 hL) (T12.edges12 hL) L _ _ rs ss hs ht hr hq)).mono fun e W' ⟨he, hb⟩ => ?_
  subst he
  exact ⟨_, rfl, _, _, _, [], _, [], hW', trodAll_mk1 (shut_bool Tryd.underlying4 true), trodAll_stay laidOut hb _ _ _ _ streamsBack_params hA (fun x hx => hW'.lt x (by revert hx; simp)), rfl, hb.frame _, fun h => by cases h⟩

theorem streamsBack_holds : Rows.StreamsBackSaid :=
  OpenClaim.holds_of_wide 5 Tryd.f5 rfl rfl rfl rfl rfl rfl rfl ⟨rfl, rfl, rfl, rfl, rfl⟩ rfl rfl rfl rfl rfl (by kernel_rfl) Tryd.func5 (by kernel_rfl)
    (of_decide_eq_true (by kernel_rfl)) (by unfold Func.isWrapper; first | (rw [if_pos (by decide +kernel)]; kernel_rfl) | (rw [if_neg (by decide +kernel)]; exact ⟨rfl, rfl⟩))
    (fun os started H enc _ => streamsBack_lifted os started H enc)

theorem streamsBack_card : Rows.StreamsBackCardSaid :=
  Claim7.holds_tied_plain_at .later [] [.data, .data] true (true, "875fb67af7bf6777935ef677689f7a825a6da799e6903b2e9a948e48f03acdfd") false
    streamsBack_holds (fun _ h => by cases h) (by kernel_rfl) (fun _ h => by cases h) streamsBack_row_tie rfl ⟨rfl, rfl⟩ (by kernel_rfl) rfl
    (fun f fn hf hfn => by
      obtain rfl : f = 5 := Option.some.inj ((show Tryd.prog.funcNamed "gouache/gouachelaw13.StreamsBack" = some 5 by kernel_rfl).symm.trans hf) |>.symm
      obtain rfl : fn = Tryd.f5 := (Option.some.inj (Tryd.func5.symm.trans hfn)).symm
      exact ⟨by kernel_rfl, fun j t ht => by
        rw [Tryd.params5] at ht
        have hm : t ∈ [27, 33] := by simpa using Array.mem_of_getElem? ht
        have hall : ([27, 33].all fun u => !Tryd.prog.wantsStandIn u) = true := by kernel_rfl
        exact (show Tryd.prog.wantsStandIn t = false by simpa using List.all_eq_true.1 hall t hm)⟩)
    (by kernel_rfl)
end Go.Proofs.YtjdaglmkljbfkaaDoor

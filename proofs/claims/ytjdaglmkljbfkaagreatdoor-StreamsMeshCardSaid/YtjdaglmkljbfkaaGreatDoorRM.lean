/- THE ROW AND THE TIED CARD: the bytes, and the faces, of any mesh, by any layout, are what the chapter says, in new memory, or refused; the mesh stays as it was. No condition but the row's own. -/
import Derived.Test.YtjdaglmkljbfkaaGreatDoorME07
import Derived.Test.YtjdaglmkljbfkaaGreatDoorCards
import Derived.Test.YtjdaglmkljbfkaaGreatDoorTie
namespace Go.Proofs.YtjdaglmkljbfkaaGreatDoor
open Go Go.Gx Go.RowKit Go.ChangeShapes Go.WideShapes Go.ChangeAt
set_option maxRecDepth 100000

theorem streamsMesh_params : ([27, 34].all fun t => Tryz.prog.readableRec t && decide (t < Tryz.prog.types.size)) = true := by kernel_rfl
theorem streamsMesh_lifted (os : Os) (started : os.Started) (H : Type) (enc : TypeId × Value → H) :
    ReturnsInHanded {} Tryz.checked os 4 .any (fun w args => (Rows.streamsMeshSpec.pre enc Tryz.prog Tryz.f4 [] false w args ∧ laidMetH Tryz.prog T12.laid12 w) ∧ sizedMet enc Tryz.prog Tryz.f4 (OpenSpec.ofChange Rows.streamsMeshSpec) false w args)
      (Rows.streamsMeshSpec.post enc Tryz.prog Tryz.f4 false true false false) := by
  refine returnsInHanded_of_change_and (C := Tryz.checked) (X := fun w _ => laidMetH Tryz.prog T12.laid12 w) (fun _ _ _ hh h => h.of_heap hh) own started (by kernel_rfl) Tryz.func4
    (ChangeSpec.witness_shaped (enc := enc) (C := Tryz.checked) (os := os) (X := fun w _ => laidMetH Tryz.prog T12.laid12 w) false (World.doorLaid Tryz.prog 400 os) #[.agg layZ.toArray, .agg #[.slice none 0 0, .slice none 0 0]] 8 rfl (World.shaped_of_RefB (by kernel_rfl) (by kernel_rfl)) (by kernel_rfl) (by kernel_rfl) (by kernel_rfl) (T12.door12 os _)) ?_
  intro W base args ds gs before hval0 hW _ hwt hL _
  have hval : ∀ (j : Nat) t v, Tryz.f4.params[j]? = some t → args[j]? = some v → Value.okWide Tryz.prog W .any base t v := hval0
  have hW' := hW
  obtain ⟨p, q, hA0, hV, rfl, hfz, hnd⟩ := hW
  have hA : DataW.TrodAll enc Tryz.prog W 0 (fun _ => true) true Tryz.f4.params.toList args.toList ds p := hA0
  rw [Tryz.params4] at hA hval
  rw [Tryz.params4] at hwt
  obtain ⟨v0, vs1, d0, ds1, p0, q1, ea0, rfl, rfl, h0, hA1_⟩ := trodAll_cons hA
  obtain ⟨v1, vs2, d1, ds2, p1, q2, rfl, rfl, rfl, h1, hA2_⟩ := trodAll_cons hA1_
  obtain ⟨rfl, rfl, rfl⟩ := trodAll_nil hA2_
  have eargs : args = #[v0, v1] := by simpa using congrArg List.toArray ea0
  subst eargs
  obtain ⟨rfl, rfl⟩ := trodVars_none hV
  have hv0 := hval 0 27 v0 rfl rfl
  obtain ⟨L, rfl, _⟩ := open_lay hv0 h0
  have hv1 := hval 1 34 v1 rfl rfl
  have hsz1 : ∀ m ∈ d1.weights Tryz.prog 34, m ≤ reachBytes := fun m hm => of_decide_eq_true (List.all_eq_true.1 hwt m (DataW.weights_mem_each (j := 1) rfl rfl m hm))
  obtain ⟨rv, tv, rs, ss, rfl, hs, hr, ht, hq⟩ := open_mesh hv1 h1 hsz1
  refine (law_end (law_streamsMesh W [] (T12.sets12 hL) (T12.edges12 hL) L _ _ rs ss hs ht hr hq)).mono fun e W' ⟨he, hb⟩ => ?_
  subst he
  exact ⟨_, rfl, _, _, _, [], _, [], hW', trodAll_mk1 (shut_bool Tryz.underlying4 true), trodAll_stay laidOut hb _ _ _ _ streamsMesh_params hA (fun x hx => hW'.lt x (by revert hx; simp)), rfl, hb.frame _, fun h => by cases h⟩

theorem streamsMesh_holds : Rows.StreamsMeshSaid :=
  OpenClaim.holds_of_wide 4 Tryz.f4 rfl rfl rfl rfl rfl rfl rfl ⟨rfl, rfl, rfl, rfl, rfl⟩ rfl rfl rfl rfl rfl (by kernel_rfl) Tryz.func4 (by kernel_rfl)
    (of_decide_eq_true (by kernel_rfl)) (by unfold Func.isWrapper; first | (rw [if_pos (by decide +kernel)]; kernel_rfl) | (rw [if_neg (by decide +kernel)]; exact ⟨rfl, rfl⟩))
    (fun os started H enc _ => streamsMesh_lifted os started H enc)

theorem streamsMesh_card : Rows.StreamsMeshCardSaid :=
  Claim7.holds_tied_plain_at .later [] [.data, .data] true (true, "ce01c73f4f30702bc10fa217963d2851177734c04edf7831b7d8569829cce080") false
    streamsMesh_holds (fun _ h => by cases h) (by kernel_rfl) (fun _ h => by cases h) streamsMesh_row_tie rfl ⟨rfl, rfl⟩ (by kernel_rfl) rfl
    (fun f fn hf hfn => by
      obtain rfl : f = 4 := Option.some.inj ((show Tryz.prog.funcNamed "gouache/gouachelaw13.StreamsMesh" = some 4 by kernel_rfl).symm.trans hf) |>.symm
      obtain rfl : fn = Tryz.f4 := (Option.some.inj (Tryz.func4.symm.trans hfn)).symm
      exact ⟨by kernel_rfl, fun j t ht => by
        rw [Tryz.params4] at ht
        have hm : t ∈ [27, 34] := by simpa using Array.mem_of_getElem? ht
        have hall : ([27, 34].all fun u => !Tryz.prog.wantsStandIn u) = true := by kernel_rfl
        exact (show Tryz.prog.wantsStandIn t = false by simpa using List.all_eq_true.1 hall t hm)⟩)
    (by kernel_rfl)
end Go.Proofs.YtjdaglmkljbfkaaGreatDoor

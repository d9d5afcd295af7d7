/- THE ROW AND THE TIED CARD: each record is got, and put, alone as among the others. No condition but the row's own. -/
import Derived.Test.YtjehicncbpljaaaDoorS09q
import Derived.Test.YtjehicncbpljaaaDoorS09o
import Derived.Test.YtjehicncbpljaaaDoorCards
import Derived.Test.YtjehicncbpljaaaDoorTie
namespace Go.Proofs.YtjehicncbpljaaaDoor
open Go Go.Gx Go.RowKit Go.ChangeShapes Go.WideShapes Go.ChangeAt
set_option maxRecDepth 100000

theorem recordsEach_params : ([27, 28].all fun t => Tryd.prog.readableRec t && decide (t < Tryd.prog.types.size)) = true := by kernel_rfl
theorem recordsEach_lifted (os : Os) (started : os.Started) (H : Type) (enc : TypeId × Value → H) :
    ReturnsInHanded {} Tryd.checked os 7 .any (fun w args => (Rows.recordsEachSpec.pre enc Tryd.prog Tryd.f7 [] false w args ∧ laidMetH Tryd.prog laid09 w) ∧ sizedMet enc Tryd.prog Tryd.f7 (OpenSpec.ofChange Rows.recordsEachSpec) false w args)
      (Rows.recordsEachSpec.post enc Tryd.prog Tryd.f7 false true false false) := by
  refine returnsInHanded_of_change_and (C := Tryd.checked) (X := fun w _ => laidMetH Tryd.prog laid09 w) (fun _ _ _ hh h => h.of_heap hh) own started (by kernel_rfl) Tryd.func7
    (ChangeSpec.witness_shaped (enc := enc) (C := Tryd.checked) (os := os) (X := fun w _ => laidMetH Tryd.prog laid09 w) false (World.doorLaid Tryd.prog 400 os) #[.agg layZ.toArray, .slice none 0 0] 8 rfl (World.shaped_of_RefB (by kernel_rfl) (by kernel_rfl)) (by kernel_rfl) (by kernel_rfl) (by kernel_rfl) (door09 os _)) ?_
  intro W base args ds gs before hval0 hW _ hwt hL _
  have hval : ∀ (j : Nat) t v, Tryd.f7.params[j]? = some t → args[j]? = some v → Value.okWide Tryd.prog W .any base t v := hval0
  have hW' := hW
  obtain ⟨p, q, hA0, hV, rfl, hfz, hnd⟩ := hW
  have hA : DataW.TrodAll enc Tryd.prog W 0 (fun _ => true) true Tryd.f7.params.toList args.toList ds p := hA0
  rw [Tryd.params7] at hA hval
  rw [Tryd.params7] at hwt
  obtain ⟨v0, vs1, d0, ds1, p0, q1, ea0, rfl, rfl, h0, hA1_⟩ := trodAll_cons hA
  obtain ⟨v1, vs2, d1, ds2, p1, q2, rfl, rfl, rfl, h1, hA2_⟩ := trodAll_cons hA1_
  obtain ⟨rfl, rfl, rfl⟩ := trodAll_nil hA2_
  have eargs : args = #[v0, v1] := by simpa using congrArg List.toArray ea0
  subst eargs
  obtain ⟨rfl, rfl⟩ := trodVars_none hV
  have hv0 := hval 0 27 v0 rfl rfl
  obtain ⟨L, rfl, _⟩ := open_lay hv0 h0
  have hv1 := hval 1 28 v1 rfl rfl
  have hsz1 : ∀ m ∈ d1.weights Tryd.prog 28, m ≤ reachBytes := fun m hm => of_decide_eq_true (List.all_eq_true.1 hwt m (DataW.weights_mem_each (j := 1) rfl rfl m hm))
  obtain ⟨bs, hs, hb, hl0⟩ := open_bytesR hv1 h1 hsz1
  refine (law_end (law_recordsEach W [] (sets09 hL) L _ bs hs hb (by omega))).mono fun e W' ⟨he, hb⟩ => ?_
  subst he
  exact ⟨_, rfl, _, _, _, [], _, [], hW', trodAll_mk1 (shut_bool Tryd.underlying4 true), trodAll_stay laidOut hb _ _ _ _ recordsEach_params hA (fun x hx => hW'.lt x (by revert hx; simp)), rfl, hb.frame _, fun h => by cases h⟩

theorem recordsEach_holds : Rows.RecordsEachSaid :=
  OpenClaim.holds_of_wide 7 Tryd.f7 rfl rfl rfl rfl rfl rfl rfl ⟨rfl, rfl, rfl, rfl, rfl⟩ rfl rfl rfl rfl rfl (by kernel_rfl) Tryd.func7 (by kernel_rfl)
    (of_decide_eq_true (by kernel_rfl)) (by unfold Func.isWrapper; first | (rw [if_pos (by decide +kernel)]; kernel_rfl) | (rw [if_neg (by decide +kernel)]; exact ⟨rfl, rfl⟩))
    (fun os started H enc _ => recordsEach_lifted os started H enc)

theorem recordsEach_card : Rows.RecordsEachCardSaid :=
  Claim7.holds_tied_plain_at .later [] [.data] true (true, "f4e39ec7ef2079839cd6fbb4deebf43a81b2cb0e610519870cbf60ab8afaa0d2") false
    recordsEach_holds (fun _ h => by cases h) (by kernel_rfl) (fun _ h => by cases h) recordsEach_row_tie rfl ⟨rfl, rfl⟩ (by kernel_rfl) rfl
    (fun f fn hf hfn => by
      obtain rfl : f = 7 := Option.some.inj ((show Tryd.prog.funcNamed "gouache/gouachelaw09.RecordsEach" = some 7 by kernel_rfl).symm.trans hf) |>.symm
      obtain rfl : fn = Tryd.f7 := (Option.some.inj (Tryd.func7.symm.trans hfn)).symm
      exact ⟨by kernel_rfl, fun j t ht => by
        rw [Tryd.params7] at ht
        have hm : t ∈ [27, 28] := by simpa using Array.mem_of_getElem? ht
        have hall : ([27, 28].all fun u => !Tryd.prog.wantsStandIn u) = true := by kernel_rfl
        exact (show Tryd.prog.wantsStandIn t = false by simpa using List.all_eq_true.1 hall t hm)⟩)
    (by kernel_rfl)
end Go.Proofs.YtjehicncbpljaaaDoor

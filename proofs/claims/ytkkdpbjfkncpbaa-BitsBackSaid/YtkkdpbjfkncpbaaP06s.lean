/- THE ROWS: what is put is got; bytes put eight bits each are these bytes again. No condition but the row's own. -/
import Derived.Test.YtkkdpbjfkncpbaaP06i
import Derived.Test.YtkkdpbjfkncpbaaP06j
import Derived.Test.YtkkdpbjfkncpbaaP06o
import Derived.Test.YtkkdpbjfkncpbaaP06u
namespace Go.Proofs.Ytkkdpbjfkncpbaa
open Go Go.Gx Go.RowKit Go.ChangeShapes Go.WideShapes Go.ChangeAt
set_option maxRecDepth 100000

theorem bitsBack_params : ([31].all fun t => Try.prog.readableRec t && decide (t < Try.prog.types.size)) = true := by kernel_rfl
theorem bitsBack_lifted (os : Os) (started : os.Started) (H : Type) (enc : TypeId × Value → H) :
    ReturnsInHanded {} Try.checked os 6 .any (Rows.bitsBackSpec.pre6 enc Try.prog Try.f6 Rows.bitsBackRow.domain false) (Rows.bitsBackSpec.post enc Try.prog Try.f6 false true false false) := by
  refine returnsInHanded_of_change_sized (C := Try.checked) own started (by kernel_rfl) Try.func6
    (ChangeSpec.witness6 (enc := enc) (C := Try.checked) false ⟨#[], #[.slice none 0 0], []⟩ 8 (by kernel_rfl) (by kernel_rfl) (by kernel_rfl) (by kernel_rfl)) ?_
  intro W base args ds gs before hval0 hW _ hwt _
  have hval : ∀ (j : Nat) t v, Try.f6.params[j]? = some t → args[j]? = some v → Value.okWide Try.prog W .any base t v := hval0
  have hW' := hW
  obtain ⟨p, q, hA0, hV, rfl, hfz, hnd⟩ := hW
  have hA : DataW.TrodAll enc Try.prog W 0 (fun _ => true) true Try.f6.params.toList args.toList ds p := hA0
  rw [Try.params6] at hA hval
  rw [Try.params6] at hwt
  obtain ⟨v0, vs1, d0, ds1, p0, q1, ea0, rfl, rfl, h0, hA1_⟩ := trodAll_cons hA
  obtain ⟨rfl, rfl, rfl⟩ := trodAll_nil hA1_
  have eargs : args = #[v0] := by simpa using congrArg List.toArray ea0
  subst eargs
  obtain ⟨rfl, rfl⟩ := trodVars_none hV
  have hv0 := hval 0 31 v0 rfl rfl
  obtain ⟨ls, hs, hb⟩ := open_lds hv0 h0
  refine (law_end (law_bitsBack W [] _ ls hs hb)).mono fun e W' ⟨he, hb⟩ => ?_
  subst he
  exact ⟨_, rfl, _, _, _, [], _, [], hW', trodAll_mk1 (shut_bool Try.underlying4 true), trodAll_stay laidOut hb _ _ _ _ bitsBack_params hA (fun x hx => hW'.lt x (by revert hx; simp)), rfl, hb.frame _, fun h => by cases h⟩

theorem bitsBack_holds : Rows.BitsBackSaid :=
  OpenClaim.holds_of_wide 6 Try.f6 rfl rfl rfl rfl rfl rfl rfl ⟨rfl, rfl, rfl, rfl, rfl⟩ rfl rfl rfl rfl rfl (by kernel_rfl) Try.func6 (by kernel_rfl)
    (of_decide_eq_true (by kernel_rfl)) (by unfold Func.isWrapper; first | (rw [if_pos (by decide +kernel)]; kernel_rfl) | (rw [if_neg (by decide +kernel)]; exact ⟨rfl, rfl⟩))
    (fun os started H enc _ => bitsBack_lifted os started H enc)

theorem bitsBytes_params : ([22, 5].all fun t => Try.prog.readableRec t && decide (t < Try.prog.types.size)) = true := by kernel_rfl
theorem bitsBytes_lifted (os : Os) (started : os.Started) (H : Type) (enc : TypeId × Value → H) :
    ReturnsInHanded {} Try.checked os 8 .any (Rows.bitsBytesSpec.pre6 enc Try.prog Try.f8 Rows.bitsBytesRow.domain false) (Rows.bitsBytesSpec.post enc Try.prog Try.f8 false true false false) := by
  refine returnsInHanded_of_change_sized (C := Try.checked) own started (by kernel_rfl) Try.func8
    (ChangeSpec.witness6 (enc := enc) (C := Try.checked) false ⟨#[], #[.slice none 0 0, .int .u8 0], []⟩ 8 (by kernel_rfl) (by kernel_rfl) (by kernel_rfl) (by kernel_rfl)) ?_
  intro W base args ds gs before hval0 hW _ hwt _
  have hval : ∀ (j : Nat) t v, Try.f8.params[j]? = some t → args[j]? = some v → Value.okWide Try.prog W .any base t v := hval0
  have hW' := hW
  obtain ⟨p, q, hA0, hV, rfl, hfz, hnd⟩ := hW
  have hA : DataW.TrodAll enc Try.prog W 0 (fun _ => true) true Try.f8.params.toList args.toList ds p := hA0
  rw [Try.params8] at hA hval
  rw [Try.params8] at hwt
  obtain ⟨v0, vs1, d0, ds1, p0, q1, ea0, rfl, rfl, h0, hA1_⟩ := trodAll_cons hA
  obtain ⟨v1, vs2, d1, ds2, p1, q2, rfl, rfl, rfl, h1, hA2_⟩ := trodAll_cons hA1_
  obtain ⟨rfl, rfl, rfl⟩ := trodAll_nil hA2_
  have eargs : args = #[v0, v1] := by simpa using congrArg List.toArray ea0
  subst eargs
  obtain ⟨rfl, rfl⟩ := trodVars_none hV
  have hv0 := hval 0 22 v0 rfl rfl
  have hsz0 : ∀ m ∈ d0.weights Try.prog 22, m ≤ reachBytes := fun m hm => of_decide_eq_true (List.all_eq_true.1 hwt m (DataW.weights_mem_each (j := 0) rfl rfl m hm))
  obtain ⟨bs, hs, hb, _⟩ := open_bytesB hv0 h0 hsz0
  have hv1 := hval 1 5 v1 rfl rfl
  obtain ⟨z, rfl, rfl, rfl, wz⟩ := open_int Try.underlying5 hv1 h1
  obtain ⟨z, rfl, hz⟩ := wf_u8' wz
  refine (law_end (law_bitsBytes W [] _ bs z hs hb hz)).mono fun e W' ⟨he, hb⟩ => ?_
  subst he
  exact ⟨_, rfl, _, _, _, [], _, [], hW', trodAll_mk1 (shut_bool Try.underlying4 true), trodAll_stay laidOut hb _ _ _ _ bitsBytes_params hA (fun x hx => hW'.lt x (by revert hx; simp)), rfl, hb.frame _, fun h => by cases h⟩

theorem bitsBytes_holds : Rows.BitsBytesSaid :=
  OpenClaim.holds_of_wide 8 Try.f8 rfl rfl rfl rfl rfl rfl rfl ⟨rfl, rfl, rfl, rfl, rfl⟩ rfl rfl rfl rfl rfl (by kernel_rfl) Try.func8 (by kernel_rfl)
    (of_decide_eq_true (by kernel_rfl)) (by unfold Func.isWrapper; first | (rw [if_pos (by decide +kernel)]; kernel_rfl) | (rw [if_neg (by decide +kernel)]; exact ⟨rfl, rfl⟩))
    (fun os started H enc _ => bitsBytes_lifted os started H enc)
end Go.Proofs.Ytkkdpbjfkncpbaa

/-
  FnLawsOfCurves returns true for every input (string of bytes); nothing is assumed of it beyond the row's own conditions.
-/
import Derived.Test.YtapdekacpecgiaaGreatFin
import Derived.Test.YtapdekacpecgiaaGreatWd
import Derived.Test.YtapdekacpecgiaaGreatBy
import Derived.Test.YtapdekacpecgiaaGreatBo
namespace Go.Proofs.YtapdekacpecgiaaGreat
open Go.RowKit
set_option linter.unusedSimpArgs false
set_option linter.unusedVariables false
set_option linter.unusedSectionVars false
set_option maxRecDepth 20000
set_option maxHeartbeats 1000000
namespace fnLawsOfCurves
open Go.ChangeShapes Go.WideShapes Go.ChangeAt Go.RowKit Go.Joins Go.Deep
set_option maxRecDepth 100000 in
theorem lifted (os : Os) (started : os.Started) (H : Type) (enc : TypeId × Value → H) :
  ReturnsInHanded {} Tryz.checked os 5 .any (Rows.fnLawsOfCurvesSpec.pre6 enc Tryz.prog Tryz.f5 Rows.fnLawsOfCurvesRow.domain false) (Rows.fnLawsOfCurvesSpec.post enc Tryz.prog Tryz.f5 false true false false) := by
 refine returnsInHanded_of_change (C := Tryz.checked) ownK started (by kernel_rfl) Tryz.func5
  (ChangeSpec.witness6 (enc := enc) (C := Tryz.checked) false ⟨#[], #[.slice none 0 0], []⟩ 8 (by kernel_rfl) (by kernel_rfl) (by kernel_rfl) (by kernel_rfl)) ?_
 intro W base args ds gs before hval0 hW hcnd _
 have hval : ∀ (j : Nat) t v, Tryz.f5.params[j]? = some t → args[j]? = some v → Value.okWide Tryz.prog W .any base t v := hval0
 have hW' := hW
 obtain ⟨p, q, hA0, hV, rfl, hfz, hnd⟩ := hW
 have hA : DataW.TrodAll enc Tryz.prog W 0 (fun _ => true) true Tryz.f5.params.toList args.toList ds p := hA0
 have hts : ∀ t ∈ Tryz.f5.params.toList, Tryz.prog.readableRec t = true ∧ t < Tryz.prog.types.size := by
  intro t ht; rw [Tryz.params5] at ht; simp only [List.mem_cons, List.not_mem_nil, or_false] at ht
  rcases ht with rfl
  ·exact ⟨by kernel_rfl, of_decide_eq_true (by kernel_rfl)⟩
 rw [Tryz.params5] at hA hval
 obtain ⟨v0, vs0, d0, ds0, p0, q0, hargs, rfl, rfl, h0, r0⟩ := trodAll_cons hA
 obtain ⟨rfl, rfl, rfl⟩ := trodAll_nil r0
 obtain rfl : args = #[v0] := by cases args; simp_all
 obtain ⟨rfl, rfl⟩ := trodVars_none hV
 obtain ⟨e0, c0, l0, b0, x0, g0⟩ := Ae7 Tryz.underlying22 Tryz.underlying5 (by kernel_rfl) (hval 0 22 v0 rfl rfl) h0
 have hcall := Yu (by decide) (W := W) (vs := [v0]) (I4 e0 c0 l0 b0 x0) (by rfl) (fun j t v hj hv => by
  match j, hj, hv with
  | 0, hj, hv => simp only [List.getElem?_cons_zero, Option.some.injEq] at hj hv; subst hj; subst hv; exact ⟨g0.1, g0.2 _⟩
  | _ + 1, hj, hv => simp at hj)
 refine hcall.mono fun e W' ⟨he, hb⟩ => ?_
 subst he
 exact ⟨_, rfl, Af2 hW' rfl hts rfl Tryz.underlying4 rfl hb⟩
theorem closed : joinedFacts Tryz.pinned.checked.prog 5 Tryz.f5 Rows.fnLawsOfCurvesSpec Rows.fnLawsOfCurvesRow = true := by
 unfold joinedFacts
 rw [ioEnter, ioLifts, ioMake]
 kernel_rfl
theorem over : Rows.fnLawsOfCurvesRow.holds Tryz.pinned (OpenSpec.ofChange Rows.fnLawsOfCurvesSpec) :=
 OpenClaim.holds_of_wide 5 Tryz.f5 rfl rfl rfl rfl rfl rfl rfl ⟨rfl, rfl, rfl, rfl, rfl⟩ rfl rfl rfl rfl rfl (by kernel_rfl) Tryz.func5 closed
  (of_decide_eq_true (by kernel_rfl)) (by unfold Func.isWrapper; first | (rw [if_pos (by decide +kernel)]; kernel_rfl) | (rw [if_neg (by decide +kernel)]; exact ⟨rfl, rfl⟩))
  (fun os started H enc _ => lifted os started H enc)
theorem proved : Rows.FnLawsOfCurvesSaid :=
 over
#print axioms proved
end fnLawsOfCurves
end Go.Proofs.YtapdekacpecgiaaGreat

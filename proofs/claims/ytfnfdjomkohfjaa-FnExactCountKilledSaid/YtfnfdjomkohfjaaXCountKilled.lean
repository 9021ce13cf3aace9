/-
  FnExactCountKilled returns true for every input (plane, integer, integer); nothing is assumed of it beyond the row's own conditions.
-/
import Derived.Test.YtfnfdjomkohfjaaFin
import Derived.Test.YtfnfdjomkohfjaaWd
import Derived.Test.YtfnfdjomkohfjaaYCountKilled
import Derived.Test.YtfnfdjomkohfjaaFp
namespace Go.Proofs.Ytfnfdjomkohfjaa
open Go.RowKit
set_option linter.unusedSimpArgs false
set_option linter.unusedVariables false
set_option linter.unusedSectionVars false
set_option maxRecDepth 20000
-- FnExactCountKilled returns true for every input (plane, integer, integer); nothing is assumed of it beyond the row's own conditions.
namespace fnExactCountKilled
open Go.ChangeShapes Go.WideShapes Go.ChangeAt Go.RowKit Go.Joins Go.Deep
set_option maxRecDepth 100000 in
theorem lifted (os : Os) (started : os.Started) (H : Type) (enc : TypeId × Value → H) :
    ReturnsInHanded {} Try.checked os 5 .any (Rows.fnExactCountKilledSpec.pre6 enc Try.prog Try.f5 Rows.fnExactCountKilledRow.domain false) (Rows.fnExactCountKilledSpec.post enc Try.prog Try.f5 false true false false) := by
  refine returnsInHanded_of_change (C := Try.checked) ownK started (by kernel_rfl) Try.func5
    (ChangeSpec.witness6 (enc := enc) (C := Try.checked) false ⟨#[], #[.agg #[.int .i64 0, .slice none 0 0], .int .i64 0, .int .i64 0], []⟩ 8 (by kernel_rfl) (by kernel_rfl) (by kernel_rfl) (by kernel_rfl)) ?_
  intro W base args ds gs before hval0 hW hcnd _
  have hval : ∀ (j : Nat) t v, Try.f5.params[j]? = some t → args[j]? = some v → Value.okWide Try.prog W .any base t v := hval0
  have hW' := hW
  obtain ⟨p, q, hA0, hV, rfl, hfz, hnd⟩ := hW
  have hA : DataW.TrodAll enc Try.prog W 0 (fun _ => true) true Try.f5.params.toList args.toList ds p := hA0
  have hts : ∀ t ∈ Try.f5.params.toList, Try.prog.readableRec t = true ∧ t < Try.prog.types.size := by
    intro t ht; rw [Try.params5] at ht; simp only [List.mem_cons, List.not_mem_nil, or_false] at ht
    rcases ht with rfl | rfl | rfl
    · exact ⟨by kernel_rfl, of_decide_eq_true (by kernel_rfl)⟩
    · exact ⟨by kernel_rfl, of_decide_eq_true (by kernel_rfl)⟩
    · exact ⟨by kernel_rfl, of_decide_eq_true (by kernel_rfl)⟩
  rw [Try.params5] at hA hval
  obtain ⟨v0, vs0, d0, ds0, p0, q0, hargs, rfl, rfl, h0, r0⟩ := trodAll_cons hA
  obtain ⟨v1, vs1, d1, ds1, p1, q1, rfl, rfl, rfl, h1, r1⟩ := trodAll_cons r0
  obtain ⟨v2, vs2, d2, ds2, p2, q2, rfl, rfl, rfl, h2, r2⟩ := trodAll_cons r1
  obtain ⟨rfl, rfl, rfl⟩ := trodAll_nil r2
  obtain rfl : args = #[v0, v1, v2] := by cases args; simp_all
  obtain ⟨rfl, rfl⟩ := trodVars_none hV
  obtain ⟨a0, l0, b0, w0, g0⟩ := ar_plane Try.underlying24 (by kernel_rfl) (by kernel_rfl) Try.underlying2 Try.underlying22 Try.underlying25 Try.underlying2 (by kernel_rfl) (by kernel_rfl) (hval 0 24 v0 rfl rfl) h0
  obtain ⟨a1, rfl, rfl, rfl, w1⟩ := open_int Try.underlying2 (hval 1 2 v1 rfl rfl) h1
  have g1 := ar_int W .i64 a1
  obtain ⟨a2, rfl, rfl, rfl, w2⟩ := open_int Try.underlying2 (hval 2 2 v2 rfl rfl) h2
  have g2 := ar_int W .i64 a2
  have hcall := calls_true (by decide) (W := W) (vs := [v0, .int .i64 a1, .int .i64 a2]) (c_laws_FnExactCountKilled a0 l0 b0 a1 (wfb w1) a2 (wfb w2)) (by rfl) (fun j t v hj hv => by
    match j, hj, hv with
    | 0, hj, hv => simp only [List.getElem?_cons_zero, Option.some.injEq] at hj hv; subst hj; subst hv; exact ⟨g0.1, g0.2 _⟩
    | 1, hj, hv => simp only [List.getElem?_cons_succ, List.getElem?_cons_zero, Option.some.injEq] at hj hv; subst hj; subst hv; exact ⟨g1.1, g1.2 _⟩
    | 2, hj, hv => simp only [List.getElem?_cons_succ, List.getElem?_cons_zero, Option.some.injEq] at hj hv; subst hj; subst hv; exact ⟨g2.1, g2.2 _⟩
    | _ + 3, hj, hv => simp at hj)
  refine hcall.mono fun e W' ⟨he, hb⟩ => ?_
  subst he
  exact ⟨_, rfl, post_law hW' rfl hts rfl Try.underlying4 rfl hb⟩
theorem closed : joinedFacts Try.pinned.checked.prog 5 Try.f5 Rows.fnExactCountKilledSpec Rows.fnExactCountKilledRow = true := by
  unfold joinedFacts
  rw [ioEnter, ioLifts, ioMake]
  kernel_rfl
theorem over : Rows.fnExactCountKilledRow.holds Try.pinned (OpenSpec.ofChange Rows.fnExactCountKilledSpec) :=
  OpenClaim.holds_of_wide 5 Try.f5 rfl rfl rfl rfl rfl rfl rfl ⟨rfl, rfl, rfl, rfl, rfl⟩ rfl rfl rfl rfl rfl (by kernel_rfl) Try.func5 closed
    (of_decide_eq_true (by kernel_rfl)) (by unfold Func.isWrapper; first | (rw [if_pos (by decide +kernel)]; kernel_rfl) | (rw [if_neg (by decide +kernel)]; exact ⟨rfl, rfl⟩))
    (fun os started H enc _ => lifted os started H enc)
/-- The given statement. -/
theorem proved : Rows.FnExactCountKilledSaid :=
  over
#print axioms proved
end fnExactCountKilled

end Go.Proofs.Ytfnfdjomkohfjaa

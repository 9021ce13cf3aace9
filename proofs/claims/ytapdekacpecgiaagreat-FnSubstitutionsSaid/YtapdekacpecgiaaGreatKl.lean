/-
  Whether a plane is a law, in the program.
-/
import Derived.Test.YtapdekacpecgiaaGreatKk
import Derived.Test.YtapdekacpecgiaaGreatFin
import Derived.WalkKit
import Derived.ProofKit
namespace Go.Proofs.YtapdekacpecgiaaGreat
open Go.RowKit
set_option linter.unusedSimpArgs false
set_option linter.unusedVariables false
set_option linter.unusedSectionVars false
set_option maxRecDepth 20000
-- Whether a plane is a law, in the program.
theorem calls_tree {f : FuncId} (hf : f < 1000000) {args : List T} {vs : List Value} {W : World} {r : T} (h : AFn Tryz.prog f args r) (hl : vs.length = args.length)
    (hC : ∀ (j : Nat) (t : T) (v : Value), args[j]? = some t → vs[j]? = some v → t.refFree = true ∧ VR (argCx Tryz.prog W (fun _ => none)) j t v) :
    Calls Tryz.prog f vs.toArray W (fun e w' => ∃ v κ', e = .returned v ∧ VR (resCx Tryz.prog w' κ') 0 r v ∧ Below W.heap.size W w') := by
  refine (((AFn_lt hf).1 h).2 W vs (fun _ => none) (fun _ _ _ _ h => by cases h) (fun _ _ _ _ _ _ h => by cases h) hl hC).mono fun e w' ⟨v, κ', he, hB⟩ => ?_
  exact ⟨v, κ', he, hB.res, hB.os, hB.tape, hB.output, hB.size, fun k hk => hB.kept k hk rfl⟩
def PlV (W : World) (m : Int) (ll : List (List Int)) (sv : Value) : Prop := VR (argCx Tryz.prog W (fun _ => none)) 0 (.agg [.int .i64 m, .sl false 27 (rowsF ll)]) (.agg #[.int .i64 m, sv])
theorem PlV.call {W : World} {m : Int} {ll : List (List Int)} {sv : Value} (h : PlV W m ll sv) {f : FuncId} (hf : f < 1000000) {r : T} (hA : AFn Tryz.prog f [.agg [.int .i64 m, .sl false 27 (rowsF ll)]] r) :
    Calls Tryz.prog f #[.agg #[.int .i64 m, sv]] W (fun e w' => ∃ v κ', e = .returned v ∧ VR (resCx Tryz.prog w' κ') 0 r v ∧ Below W.heap.size W w') :=
  calls_tree hf (vs := [.agg #[.int .i64 m, sv]]) hA rfl (fun j t v hj hv => by
    match j, hj, hv with
    | 0, hj, hv =>
      simp only [List.getElem?_cons_zero, Option.some.injEq] at hj hv
      subst hj; subst hv
      exact ⟨by simp [T.refFree, T.refFreeL, rowsF_refFree], h⟩
    | _ + 1, hj, hv => simp at hj)
end Go.Proofs.YtapdekacpecgiaaGreat

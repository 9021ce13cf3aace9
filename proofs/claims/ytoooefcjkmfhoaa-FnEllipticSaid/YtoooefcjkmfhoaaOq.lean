/-
  CountCurveClasses.
-/
import Derived.Test.YtoooefcjkmfhoaaEa
import Derived.Test.YtoooefcjkmfhoaaFin
import Derived.Maps.OwnOps
import Derived.WalkKit
import Derived.ProofKit
namespace Go.Proofs.Ytoooefcjkmfhoaa
open Go.RowKit
set_option linter.unusedSimpArgs false
set_option linter.unusedVariables false
set_option linter.unusedSectionVars false
set_option maxRecDepth 20000
-- CountCurveClasses.
open Go.Maps (Keyed)
def clsN (p : Int) : Int := if fieldB p = true then 2 * p + (if p % 12 = 5 then 2 else if p % 12 = 7 then 4 else if p % 12 = 11 then 0 else 6) else 0
def clsC (p : Int) : Int := if fieldB p = true then 0 else 1
theorem field_all : ∀ n : Nat, n < 98 → 5 ≤ n → primeB (n : Int) = true → n % 12 = 1 ∨ n % 12 = 5 ∨ n % 12 = 7 ∨ n % 12 = 11 := by decide +kernel
theorem field_in {p : Int} (h : fieldB p = true) : 5 ≤ p ∧ p ≤ 97 ∧ (p % 12 = 1 ∨ p % 12 = 5 ∨ p % 12 = 7 ∨ p % 12 = 11) := by
  have hf := fieldB_facts h
  have hp : ((p.toNat : Nat) : Int) = p := by omega
  have := field_all p.toNat (by omega) (by omega) (by rw [hp]; exact hf.2.2)
  omega
set_option maxHeartbeats 1000000 in
theorem c_spec_CountCurveClasses (p : Int) : AFn Try.prog 24 [.int .i64 p] (.tup [.int .i64 (clsN p), .int .i64 (clsC p)]) := by
  refine AFn.of' ttOk (by decide) Try.func24 Try.ntmps24 (by rw [Try.results24]) (by rfl) (by rfl) (by simp) (by decide) (by simp only [go_sem, Nat.reduceAdd, ↓reduceIte]; rfl) mixed (fun C hP hM hC => ?_)
  cases hf : fieldB p with
  | false =>
    (repeat (first | ((with_reducible refine rgn_cons rfl (fun K hK => ?_)); simp only [go_sem, seval, ↓reduceIte, decide_true, decide_false, hf]; (first | refine hK _ _ _ (by simp only [go_sem, Nat.reduceEqDiff, ↓reduceIte]; rfl) ?_ | refine ⟨_, c_spec_l18Field p, hK _ _ _ (by simp only [go_sem, Nat.reduceEqDiff, ↓reduceIte]; rfl) ?_⟩); clear hK; clear K) | (with_reducible first | refine rgn_nil (by first | trivial | kernel_rfl) ?_ | refine AWP.seq ?_ | refine tX hC hP (by kernel_rfl) ?_ | refine aX hC hM hP (by kernel_rfl) ?_ | refine AWP.skip ?_ | refine AWP.label ?_ | refine AWP.exit ?_ | refine AWP.block ?_ | refine cTa ?_ | refine cFa ?_) | simp only [qS, Nat.reduceEqDiff, ↓reduceIte]))
    (refine AWP.ret ?_; refine retOk2 (by simp only [go_sem, seval, ↓reduceIte, decide_true, decide_false]; rfl) (by simp only [go_sem, seval, ↓reduceIte, decide_true, decide_false]; rfl) (by simp) ?_)
    simp [clsN, clsC, hf]
  | true =>
    have hp := field_in hf
    rcases hp.2.2 with h1 | h1 | h1 | h1
    · (repeat (first | ((with_reducible refine rgn_cons rfl (fun K hK => ?_)); simp only [go_sem, seval, ↓reduceIte, decide_true, decide_false, hf, tm p 12 (by omega), h1, show (12 : Int) ≠ 0 by omega, show ((1 : Int) == 5) = false from rfl, show ((1 : Int) == 7) = false from rfl, show ((1 : Int) == 11) = false from rfl, Int.toNat_zero, List.getElem?_cons_zero, List.take_zero, sizeL_nil, Nat.zero_mul, Nat.mul_one, Int.le_refl, List.length_cons, List.length_nil, wid (2 * p) (by omega) (by omega), wid (2 * p + 6) (by omega) (by omega)]; (first | refine hK _ _ _ (by simp only [go_sem, Nat.reduceEqDiff, ↓reduceIte]; rfl) ?_ | refine ⟨_, c_spec_l18Field p, hK _ _ _ (by simp only [go_sem, Nat.reduceEqDiff, ↓reduceIte]; rfl) ?_⟩); clear hK; clear K) | (with_reducible first | refine rgn_nil (by first | trivial | kernel_rfl) ?_ | refine AWP.seq ?_ | refine tX hC hP (by kernel_rfl) ?_ | refine aX hC hM hP (by kernel_rfl) ?_ | refine AWP.skip ?_ | refine AWP.label ?_ | refine AWP.exit ?_ | refine AWP.block ?_ | refine cTa ?_ | refine cFa ?_) | simp only [qS, Nat.reduceEqDiff, ↓reduceIte]))
      (refine AWP.ret ?_; refine retOk2 (by simp only [go_sem, seval, ↓reduceIte, decide_true, decide_false]; rfl) (by simp only [go_sem, seval, ↓reduceIte, decide_true, decide_false]; rfl) (by simp) ?_)
      simp [clsN, clsC, hf, h1]
    · (repeat (first | ((with_reducible refine rgn_cons rfl (fun K hK => ?_)); simp only [go_sem, seval, ↓reduceIte, decide_true, decide_false, hf, tm p 12 (by omega), h1, show (12 : Int) ≠ 0 by omega, show ((5 : Int) == 5) = true from rfl, List.getElem?_cons_zero, List.getElem?_cons_succ, List.take_zero, sizeL_nil, Nat.zero_mul, Nat.mul_one, Int.le_refl, List.length_cons, List.length_nil, wid (2 * p) (by omega) (by omega), wid (2 * p + 2) (by omega) (by omega)]; (first | refine hK _ _ _ (by simp only [go_sem, Nat.reduceEqDiff, ↓reduceIte]; rfl) ?_ | refine ⟨_, c_spec_l18Field p, hK _ _ _ (by simp only [go_sem, Nat.reduceEqDiff, ↓reduceIte]; rfl) ?_⟩); clear hK; clear K) | (with_reducible first | refine rgn_nil (by first | trivial | kernel_rfl) ?_ | refine AWP.seq ?_ | refine tX hC hP (by kernel_rfl) ?_ | refine aX hC hM hP (by kernel_rfl) ?_ | refine AWP.skip ?_ | refine AWP.label ?_ | refine AWP.exit ?_ | refine AWP.block ?_ | refine cTa ?_ | refine cFa ?_) | simp only [qS, Nat.reduceEqDiff, ↓reduceIte]))
      (refine AWP.ret ?_; refine retOk2 (by simp only [go_sem, seval, ↓reduceIte, decide_true, decide_false]; rfl) (by simp only [go_sem, seval, ↓reduceIte, decide_true, decide_false]; rfl) (by simp) ?_)
      simp [clsN, clsC, hf, h1]
    · (repeat (first | ((with_reducible refine rgn_cons rfl (fun K hK => ?_)); simp only [go_sem, seval, ↓reduceIte, decide_true, decide_false, hf, tm p 12 (by omega), h1, show (12 : Int) ≠ 0 by omega, show ((7 : Int) == 5) = false from rfl, show ((7 : Int) == 7) = true from rfl, List.getElem?_cons_zero, List.getElem?_cons_succ, List.take_zero, sizeL_nil, Nat.zero_mul, Nat.mul_one, Int.le_refl, List.length_cons, List.length_nil, wid (2 * p) (by omega) (by omega), wid (2 * p + 4) (by omega) (by omega)]; (first | refine hK _ _ _ (by simp only [go_sem, Nat.reduceEqDiff, ↓reduceIte]; rfl) ?_ | refine ⟨_, c_spec_l18Field p, hK _ _ _ (by simp only [go_sem, Nat.reduceEqDiff, ↓reduceIte]; rfl) ?_⟩); clear hK; clear K) | (with_reducible first | refine rgn_nil (by first | trivial | kernel_rfl) ?_ | refine AWP.seq ?_ | refine tX hC hP (by kernel_rfl) ?_ | refine aX hC hM hP (by kernel_rfl) ?_ | refine AWP.skip ?_ | refine AWP.label ?_ | refine AWP.exit ?_ | refine AWP.block ?_ | refine cTa ?_ | refine cFa ?_) | simp only [qS, Nat.reduceEqDiff, ↓reduceIte]))
      (refine AWP.ret ?_; refine retOk2 (by simp only [go_sem, seval, ↓reduceIte, decide_true, decide_false]; rfl) (by simp only [go_sem, seval, ↓reduceIte, decide_true, decide_false]; rfl) (by simp) ?_)
      simp [clsN, clsC, hf, h1]
    · (repeat (first | ((with_reducible refine rgn_cons rfl (fun K hK => ?_)); simp only [go_sem, seval, ↓reduceIte, decide_true, decide_false, hf, tm p 12 (by omega), h1, show (12 : Int) ≠ 0 by omega, show ((11 : Int) == 5) = false from rfl, show ((11 : Int) == 7) = false from rfl, show ((11 : Int) == 11) = true from rfl, List.getElem?_cons_zero, List.getElem?_cons_succ, List.take_zero, sizeL_nil, Nat.zero_mul, Nat.mul_one, Int.le_refl, List.length_cons, List.length_nil, wid (2 * p) (by omega) (by omega), wid (2 * p + 0) (by omega) (by omega)]; (first | refine hK _ _ _ (by simp only [go_sem, Nat.reduceEqDiff, ↓reduceIte]; rfl) ?_ | refine ⟨_, c_spec_l18Field p, hK _ _ _ (by simp only [go_sem, Nat.reduceEqDiff, ↓reduceIte]; rfl) ?_⟩); clear hK; clear K) | (with_reducible first | refine rgn_nil (by first | trivial | kernel_rfl) ?_ | refine AWP.seq ?_ | refine tX hC hP (by kernel_rfl) ?_ | refine aX hC hM hP (by kernel_rfl) ?_ | refine AWP.skip ?_ | refine AWP.label ?_ | refine AWP.exit ?_ | refine AWP.block ?_ | refine cTa ?_ | refine cFa ?_) | simp only [qS, Nat.reduceEqDiff, ↓reduceIte]))
      (refine AWP.ret ?_; refine retOk2 (by simp only [go_sem, seval, ↓reduceIte, decide_true, decide_false]; rfl) (by simp only [go_sem, seval, ↓reduceIte, decide_true, decide_false]; rfl) (by simp) ?_)
      simp [clsN, clsC, hf, h1]
-- CountCurveClasses of the program: a map is made and read.
open Go.Maps
theorem calls_bool {f : FuncId} (hf : f < 1000000) {args : List T} {vs : List Value} {W : World} {x : Bool} (h : AFn Try.prog f args (.bool x)) (hl : vs.length = args.length)
    (hC : ∀ (j : Nat) (t : T) (v : Value), args[j]? = some t → vs[j]? = some v → t.refFree = true ∧ VR (argCx Try.prog W (fun _ => none)) j t v) :
    Calls Try.prog f vs.toArray W (fun e w' => e = .returned (.bool x) ∧ Below W.heap.size W w') := by
  refine (((AFn_lt hf).1 h).2 W vs (fun _ => none) (fun _ _ _ _ h => by cases h) (fun _ _ _ _ _ _ h => by cases h) hl hC).mono fun e w' ⟨v, κ', he, hB⟩ => ?_
  obtain ⟨cs, e1, e2⟩ := hB.res
  simp only [CR] at e2
  subst e2
  simp only [mkv, List.headD_cons] at e1
  exact ⟨by rw [he, e1], ⟨hB.os, hB.tape, hB.output, hB.size, fun k hk => hB.kept k hk rfl⟩⟩
theorem call_field (p : Int) (W : World) : Calls Try.prog 52 #[.int .i64 p] W (fun e w' => e = .returned (.bool (fieldB p)) ∧ Below W.heap.size W w') :=
  calls_bool (by decide) (vs := [.int .i64 p]) (c_impl_isField p) rfl (fun j t v hj hv => by
    match j, hj, hv with
    | 0, hj, hv => simp only [List.getElem?_cons_zero, Option.some.injEq] at hj hv; subst hj; subst hv; exact ⟨(ar_int W .i64 p).1, (ar_int W .i64 p).2 _⟩
    | _ + 1, hj, hv => simp at hj)
theorem wpList_insert_own {H : Type} {P : Program} (w : World) {ops : Array Oper} {rest : List Oper} {o : Oper} {a : Act} {Q : Exit → Act → World → Prop}
    (hg : o.guard = none) (m x v : Operand) (t : TypeId) (hop : o.op = Op.insert t m x v)
    (k e : TypeId) (K : Keyed P k) (ht : P.underlying t = some (.map k e)) (R : Value → Option (DataW H × List MemPlace)) (b n : Nat) (D : DataW H)
    (hm : a.eval m = .map (some b)) (hown : w.ownsMap P k R b n D) (hn : n < maxLen) (key val : Value) (kl : Lit) (hx : a.eval x = key) (hv : a.eval v = val) (hkey : keyOf P k key = some kl)
    (d : DataW H) (ps : List MemPlace) (hval : R val = some (d, ps))
    (hK : ∀ w', w'.ownsMap P k R b (n + 1) (D.put kl d) → w.grownBy w' (some b) → wpList P ops Q rest (a.put o.dst undef) w') :
    wpList P ops Q (o :: rest) a w := by
  refine wpList_plain hg fun K' hK' => ?_
  obtain ⟨w', hrun, r1, r2⟩ := hown.update K ht hn hkey hval
  unfold Oper.wp
  simp [execOp, hop, hm, hx, hv, hrun, Result.andThen]
  exact hK' _ _ (hK w' r1 r2)
theorem cls_law : Keyed Try.prog 2 := int_keyed Try.underlying2
theorem cls_zero (w : World) : (zeroValue 2).run Try.prog w = .ok (.int .i64 0) w := by kernel_rfl
set_option maxRecDepth 100000 in
set_option maxHeartbeats 2000000 in
theorem cls_no (p : Int) (hf : fieldB p = false) (w : World) :
    Calls Try.prog 23 #[.int .i64 p] w fun e w' => e = .returned (.tuple #[.int .i64 0, .int .i64 1]) ∧ Below w.heap.size w w' := by
  go_enter Try.func23, Try.ntmps23
  go_wp2_with (go_at_call 52; refine (call_field p _).mono ?_; rw [hf]; rintro e w' ⟨rfl, hb⟩)

  go_ret2
  exact ⟨rfl, hb⟩
set_option maxRecDepth 100000 in
set_option maxHeartbeats 4000000 in
theorem cls_ok (p r x : Int) (hp : 5 ≤ p) (hp2 : p ≤ 97) (hf : fieldB p = true) (hr : p.tmod 12 = r) (hw : (Lit.int .i64 r).wf = true)
    (hx : ∀ c : Int, (((((DataW.map (H := Unit) []).put (.int .i64 1) (.lit (.int .i64 6))).put (.int .i64 5) (.lit (.int .i64 2))).put (.int .i64 7) (.lit (.int .i64 4))).put (.int .i64 11) (.lit (.int .i64 0))).atKey (.int .i64 r) (.lit (.int .i64 0)) = .lit (.int .i64 c) → c = x) (hx2 : 0 ≤ x ∧ x ≤ 6) (w : World) :
    Calls Try.prog 23 #[.int .i64 p] w fun e w' => e = .returned (.tuple #[.int .i64 (2 * p + x), .int .i64 0]) ∧ Below w.heap.size w w' := by
  have hmm := @run_makeMap Try.prog
  have k1 : keyOf Try.prog 2 (.int .i64 1) = some (.int .i64 1) := keyOf_int_mk Try.underlying2 (by decide)
  have k5 : keyOf Try.prog 2 (.int .i64 5) = some (.int .i64 5) := keyOf_int_mk Try.underlying2 (by decide)
  have k7 : keyOf Try.prog 2 (.int .i64 7) = some (.int .i64 7) := keyOf_int_mk Try.underlying2 (by decide)
  have k11 : keyOf Try.prog 2 (.int .i64 11) = some (.int .i64 11) := keyOf_int_mk Try.underlying2 (by decide)
  have kr : keyOf Try.prog 2 (.int .i64 r) = some (.int .i64 r) := keyOf_int_mk Try.underlying2 hw
  have kp : keyOf Try.prog 2 (.int .i64 (p.tmod 12)) = some (.int .i64 r) := by rw [hr]; exact kr
  go_enter Try.func23, Try.ntmps23
  go_wp2_with (first
    | (go_at_call 52; refine (call_field p _).mono ?_; rw [hf]; rintro e w' ⟨rfl, hb⟩)
    | (refine wpList_insert_own _ rfl _ _ _ 67 rfl 2 2 cls_law Try.underlying67 _ w'.heap.size 0 _ rfl (World.ownsMap_made (H := Unit) w' Try.prog 2 (plainElem Try.prog 2)) (by decide) _ _ _ rfl rfl k1 _ [] (plainElem_int Try.underlying2 (by decide)) ?_; intro w1 o1 g1)
    | (refine wpList_insert_own _ rfl _ _ _ 67 rfl 2 2 cls_law Try.underlying67 _ w'.heap.size 1 _ rfl o1 (by decide) _ _ _ rfl rfl k5 _ [] (plainElem_int Try.underlying2 (by decide)) ?_; intro w2 o2 g2)
    | (refine wpList_insert_own _ rfl _ _ _ 67 rfl 2 2 cls_law Try.underlying67 _ w'.heap.size 2 _ rfl o2 (by decide) _ _ _ rfl rfl k7 _ [] (plainElem_int Try.underlying2 (by decide)) ?_; intro w3 o3 g3)
    | (refine wpList_insert_own _ rfl _ _ _ 67 rfl 2 2 cls_law Try.underlying67 _ w'.heap.size 3 _ rfl o3 (by decide) _ _ _ rfl rfl k11 _ [] (plainElem_int Try.underlying2 (by decide)) ?_; intro w4 o4 g4)
    | (at_lookup; refine wpList_lookup_own_int _ rfl _ _ 67 rfl 2 2 .i64 cls_law Try.underlying67 Try.underlying2 (cls_zero _) w'.heap.size 4 _ rfl o4 _ _ rfl kr ?_; intro c hat hwc; have hcx := hx c hat; subst hcx)
    | go_in)
  go_ret2
  exact ⟨rfl, ((((hb.alloc hb.size _).grown g1 (Nat.le_trans hb.size (by simp)) (fun j hj => by cases hj; exact hb.size)).grown g2 (Nat.le_trans hb.size (Nat.le_trans (by simp) g1.size)) (fun j hj => by cases hj; exact hb.size)).grown g3 (Nat.le_trans hb.size (Nat.le_trans (by simp) (Nat.le_trans g1.size g2.size))) (fun j hj => by cases hj; exact hb.size)).grown g4 (Nat.le_trans hb.size (Nat.le_trans (by simp) (Nat.le_trans g1.size (Nat.le_trans g2.size g3.size)))) (fun j hj => by cases hj; exact hb.size)⟩
theorem c_impl_CountCurveClasses (p : Int) : AFn Try.prog 23 [.int .i64 p] (.tup [.int .i64 (clsN p), .int .i64 (clsC p)]) := by
  refine (AFn_lt (by decide)).2 ⟨⟨_, Try.func23, by rfl, by rfl⟩, fun w vs κ hcol hinj hlen hC => ?_⟩
  obtain ⟨v, rfl⟩ : ∃ v, vs = [v] := by
    match vs, hlen with
    | [v], _ => exact ⟨v, rfl⟩
  obtain ⟨cs, e1, e2⟩ := (hC 0 _ _ rfl rfl).2
  simp only [CR] at e2
  subst e2
  simp only [mkv, List.headD_cons] at e1
  subst e1
  have key : Calls Try.prog 23 #[.int .i64 p] w fun e w' => e = .returned (.tuple #[.int .i64 (clsN p), .int .i64 (clsC p)]) ∧ Below w.heap.size w w' := by
    cases hf : fieldB p with
    | false =>
      have e : clsN p = 0 ∧ clsC p = 1 := by simp [clsN, clsC, hf]
      rw [e.1, e.2]
      exact cls_no p hf w
    | true =>
      have hp := field_in hf
      have e0 : clsC p = 0 := by simp [clsC, hf]
      rw [e0]
      rcases hp.2.2 with h1 | h1 | h1 | h1
      · rw [show clsN p = 2 * p + 6 by simp [clsN, hf, h1]]
        exact cls_ok p 1 6 hp.1 hp.2.1 hf (by rw [tm p 12 (by omega), h1]) (by decide) (fun c hc => by have h2 := hc.symm.trans (show _ = DataW.lit (H := Unit) (.int .i64 6) by rfl); simpa using h2) (by omega) w
      · rw [show clsN p = 2 * p + 2 by simp [clsN, hf, h1]]
        exact cls_ok p 5 2 hp.1 hp.2.1 hf (by rw [tm p 12 (by omega), h1]) (by decide) (fun c hc => by have h2 := hc.symm.trans (show _ = DataW.lit (H := Unit) (.int .i64 2) by rfl); simpa using h2) (by omega) w
      · rw [show clsN p = 2 * p + 4 by simp [clsN, hf, h1]]
        exact cls_ok p 7 4 hp.1 hp.2.1 hf (by rw [tm p 12 (by omega), h1]) (by decide) (fun c hc => by have h2 := hc.symm.trans (show _ = DataW.lit (H := Unit) (.int .i64 4) by rfl); simpa using h2) (by omega) w
      · rw [show clsN p = 2 * p + 0 by simp [clsN, hf, h1]]
        exact cls_ok p 11 0 hp.1 hp.2.1 hf (by rw [tm p 12 (by omega), h1]) (by decide) (fun c hc => by have h2 := hc.symm.trans (show _ = DataW.lit (H := Unit) (.int .i64 0) by rfl); simpa using h2) (by omega) w
  refine key.mono fun e w' ⟨he, hb⟩ => ⟨_, fun _ => none, he, ⟨hb.os, hb.tape, hb.output, hb.size, fun b hlt _ => hb.block b hlt, fun _ _ _ _ h => (by cases h), fun _ _ _ _ _ _ h => (by cases h), rfl, ?_⟩⟩
  refine ⟨[.tuple #[.int .i64 (clsN p), .int .i64 (clsC p)]], rfl, ?_⟩
  simp only [CR]
  exact ⟨[.int .i64 (clsN p), .int .i64 (clsC p)], rfl, by simp [CRT, CR, mkv]⟩

end Go.Proofs.Ytoooefcjkmfhoaa

import Derived.Test.YtapdekacpecgiaaGreatKi
import Derived.Test.YtapdekacpecgiaaGreatKh
namespace Go.Proofs.YtapdekacpecgiaaGreat
open Go.RowKit
set_option linter.unusedSimpArgs false
set_option linter.unusedVariables false
set_option linter.unusedSectionVars false
set_option maxRecDepth 20000
set_option maxHeartbeats 1000000
theorem Aex {C C1 : Ctx} {tt : Tt} {n : Nat} {env env' : Env} {a : Act} {w : World} (hE : Ext C C1) (hP : TtOk C1.P tt) (md : FuncId → List Bool) (hn1 : n ≤ 1000000) {ops : Array Oper} {i : Nat} {o : Oper} {l : List Oper} (hi : ops[i]? = some o) (hl : ∀ j, ops[i + 1 + j]? = l[j]?) {d x k f : Nat} {ty : Array TypeId} {y r : T} (ho : o.op = .call { callee := .value (.func f), args := #[.tmp x], argTypes := ty }) (hg : o.guard = none) (hdst : o.dst = some d)
  (hok : ∀ o' ∈ o :: l, opOk n o' = true) (hx1 : x < 1000000) (hp : pureEnv env = true) (hx : lk env x = some ⟨k, .val y⟩) (hz : AFz C.P f [y] r) {tr : List (List (Nat × Slot) × List Nat)}
  (h1 : Txt (AFn C.P) (gRds tt md ops l (i + 1)) ((d, ⟨0, .val r⟩) :: env) tr env') (hF : FR C1 n env a w) {QQ : Exit → Act → World → Prop} (hQ : ∀ C2 a' w', Ext C1 C2 → FR C2 n env' a' w' → QQ .normal a' w') : wpOp C1.P ops QQ i (wpOps C1.P ops QQ (List.range' (i + 1) l.length)) a w := by
 obtain ⟨hE2, hd, hn, κ, V, hI, hV⟩ := hF.bare hp
 obtain ⟨⟨fn, g1, g2, g3⟩, hrp, hcall⟩ := hz
 rw [← hE.P] at g1
 obtain ⟨_, cs, e1, e2⟩ := hI.val _ _ _ hx
 rw [hV _ hx1] at e1
 obtain ⟨y', hy1, hy2⟩ := Cg hp hx
 cases hy1
 have hdn : d < n := Ap (hok o (by simp)) d hdst
 refine Ml (o := o) hi (by simp [Region.wanted, hg]) ?_
 have hrun : (execOp a.eval o).run C1.P w = .ok (.enter f [a.tmps.getD x undef].toArray) w := by
  simp only [execOp, ho, Go.resolve, Deferred.ofValue, Sem.run_bind, Sem.run_pure, Result.andThen_ok, invoke, Act.eval]
  rw [show (#[] ++ Array.map a.eval #[Operand.tmp x] ++ #[]) = [a.tmps.getD x undef].toArray by rw [show a.tmps.getD x undef = a.eval (.tmp x) from rfl]; simp]
  exact Dy g1 g2 g3 _ _
 unfold Oper.wp
 rw [hrun]
 show Calls C1.P f _ w _
 have hcall' := hcall w [a.tmps.getD x undef] rfl (fun j t v hj hv => by
  match j, hj, hv with
  | 0, hj, hv =>
   simp only [List.getElem?_cons_zero, Option.some.injEq] at hj hv
   subst hj; subst hv
   exact ⟨cs, e1, A7 (cx ⟨C1.P, w, fun _ => False, C1.pin⟩ env w κ) (argCx C.P w (fun _ => none)) x 0 (by simp [argCx, cx, hE.P]) (fun b hb => ⟨⟨hb.1, rfl⟩, rfl⟩) _ [] [] cs hy2 e2⟩
  | _ + 1, hj, hv => simp at hj)
 rw [← hE.P] at hcall'
 refine hcall'.mono fun e w' ⟨v, he, q1, q2, q3, q4, q5, c2, q6, q7⟩ => ?_
 subst he
 show wpOps C1.P ops QQ (List.range' (i + 1) l.length) (a.put o.dst v) w'
 rw [hdst]
 have hE3 : Ext C1 ⟨C1.P, w', fun _ => False, C1.pin⟩ := hE2.trans ⟨rfl, fun b hb => ⟨Nat.lt_of_lt_of_le hb.1 q4, fun h => h⟩, fun b hb => q5 b hb.1, q1, q2, q3, q4, rfl⟩
 have hF3 : FR ⟨C1.P, w', fun _ => False, C1.pin⟩ n ((d, ⟨0, .val r⟩) :: env) (a.put (some d) v) w' := by
  refine ⟨by rw [G7]; exact hd, by rw [Ju]; exact hn, fun _ => none, upd V d v, ⟨rfl, rfl, rfl, Nat.le_refl _, fun _ _ => rfl, fun _ _ _ _ h => (by cases h), fun _ _ _ _ _ _ h => (by cases h), fun t j x hx => ?_, fun t j x hx => ?_, fun t j hx => ?_, fun u0 _ _ _ _ _ _ hx _ _ => ?_, fun _ _ _ _ _ hx _ => ?_⟩, fun t ht => ?_⟩
  ·by_cases e : t = d
   ·subst e
    rw [Ao] at hx
    cases hx
    rw [By]
    exact ⟨Ce _ hrp, c2, q6, A7 (argCx C1.P w' (fun _ => none)) (cx ⟨C1.P, w', fun _ => False, C1.pin⟩ ((t, ⟨0, .val r⟩) :: env) w' (fun _ => none)) 0 t (by simp [argCx, cx, hE.P]) (fun b hb => ⟨⟨hb.1, fun h => h⟩, rfl⟩) r [] [] c2 hrp q7⟩
   ·rw [Ag _ _ _ _ e] at hx
    obtain ⟨z, z1, z2⟩ := Cg hp hx
    cases z1
    obtain ⟨z3, c3, z4, z5⟩ := hI.val t j x hx
    refine ⟨z3, c3, by simp only [upd, if_neg e]; exact z4, A7 (cx ⟨C1.P, w, fun _ => False, C1.pin⟩ env w κ) (cx ⟨C1.P, w', fun _ => False, C1.pin⟩ ((d, ⟨0, .val r⟩) :: env) w' (fun _ => none)) t t rfl (fun b hb => ⟨⟨Nat.lt_of_lt_of_le hb.1 q4, fun h => h⟩, q5 b hb.1⟩) x [] [] c3 z2 z5⟩
  ·by_cases e : t = d
   ·subst e
    rw [Ao] at hx
    cases hx
   ·rw [Ag _ _ _ _ e] at hx
    obtain ⟨z, z1, _⟩ := Cg hp hx
    cases z1
  ·by_cases e : t = d
   ·subst e
    rw [Ao] at hx
    cases hx
   ·rw [Ag _ _ _ _ e] at hx
    obtain ⟨z, z1, _⟩ := Cg hp hx
    cases z1
  ·by_cases e : u0 = d
   ·subst e
    rw [Ao] at hx
    cases hx
   ·rw [Ag _ _ _ _ e] at hx
    obtain ⟨z, z1, _⟩ := Cg hp hx
    cases z1
  ·by_cases e : 3000001 = d
   ·subst e
    rw [Ao] at hx
    cases hx
   ·rw [Ag _ _ _ _ e] at hx
    obtain ⟨z, z1, _⟩ := Cg hp hx
    cases z1
  ·rw [Kd (by rw [hn]; exact hdn)]
   by_cases e : t = d
   ·subst e; simp [upd]
   ·simp only [upd, if_neg e]; exact hV t ht
 rw [← hE.P] at h1
 exact Txt.text (C0 := ⟨C1.P, w', fun _ => False, C1.pin⟩) (P := C1.P) (tt := tt) hP md hn1 l (i + 1) _ _ w' tr env' ⟨C1.P, w', fun _ => False, C1.pin⟩ rfl (.refl _) hl (fun o' ho' => hok o' (by simp [ho'])) hF3 h1 (fun a' w'' ⟨C4, hE4, hF'⟩ => hQ _ a' w'' (hE3.trans hE4) hF')
theorem AWP.callZ2 {C : Ctx} {P : Program} {tt : Tt} {n : Nat} {env : Env} {Q : Exit → Env → Prop} (hC : C.P = P) (hP : TtOk C.P tt) (md : FuncId → List Bool) (hn1 : n ≤ 1000000) {o0 o : Oper} {l : List Oper} {id d x f : Nat} {ty : Array TypeId} {y r : T} (ho : o.op = .call { callee := .value (.func f), args := #[.tmp x], argTypes := ty }) (hg : o.guard = none) (hdst : o.dst = some d)
  (hok : (o0 :: o :: l).all (opOk n) = true) (hx1 : x < 1000000) (hz : AFz P f [y] r)
  (h : (gRd tt md (o0 :: o :: l).toArray 0 o0).run (AFn P) env (fun U _ => pureEnv (U ++ env) = true ∧ (∃ k, lk (U ++ env) x = some ⟨k, .val y⟩) ∧ rgn (AFn P) (fun _ => True) (Q .normal) (gRds tt md (o0 :: o :: l).toArray l 2) ((d, ⟨0, .val r⟩) :: (U ++ env)) [])) : AWP C n (.region id (o0 :: o :: l).toArray false) Q env := by
 intro C1 hE a w hF
 subst hC
 obtain ⟨U, R, s1, hp, ⟨k, hx⟩, h⟩ := Rd.run_sat _ _ _ h
 obtain ⟨tr, env', h1, _, h2⟩ := I0 _ _ _ h
 have hP1 : TtOk C1.P tt := by rw [hE.P]; exact hP
 refine wp_region ?_
 rw [List.range_eq_range', show (o0 :: o :: l).toArray.size = l.length + 1 + 1 by simp, List.range'_succ, wpOps_cons]
 rw [← hE.P] at s1
 refine Lm hP1 md hF hn1 (o := o0) (by simp) (List.all_eq_true.1 hok o0 (by simp)) s1 (fun a w hFe => ?_)
 obtain ⟨C5, hE5, hF⟩ := hFe
 rw [← hE5.P, List.range'_succ, wpOps_cons]
 exact Aex (hE.trans hE5) (by rw [hE5.P]; exact hP1) md hn1 (i := 0 + 1) (by simp) (fun j => by simp [Nat.add_comm 2 j, Nat.add_comm (0 + 1 + 1) j]) ho hg hdst (fun o' ho' => List.all_eq_true.1 hok o' (by simp at ho' ⊢; exact .inr ho')) hx1 hp hx hz h1 hF (fun C2 a' w' h0 hF' => ⟨C2, env', hE5.trans h0, h2, hF'⟩)
set_option maxHeartbeats 4000000 in
theorem Rk (m : Int) (ll : List (List Int)) (n : Nat) (r : T) (hm : 0 < m) (hm2 : m ≤ 10000) (hl : Pl m n ll) (hn : 1 ≤ n) (hn2 : n ≤ 1000) (hr : FaultR m n (pc ll) r) : AFn Tryz.prog 118 [.agg [.int .i64 m, .sl false 27 (rowsF ll)]] r := by
 refine fO Tryz.func118 Tryz.ntmps118 (by rw [Tryz.results118]) fun C hP hM hC => ?_
 (repeat (first | ((with_reducible refine rC rfl fun K hK => ?_); simp only [go_sem, seval, ↓reduceIte, Ac, hl.len]; refine hK _ _ _ ?_; clear hK K) | (with_reducible first | refine rN ?_ | refine sQ ?_ | refine tY hC hP ?_ | refine aY hC hM hP ?_ | refine kQ ?_ | refine lQ ?_ | refine eQ ?_ | refine bQ ?_ | refine cTa ?_ | refine cFa ?_) | simp only [qS, Nat.reduceEqDiff, ↓reduceIte]))
 refine AWP.loop (fun i : Nat => [(16, ⟨0, .val (.int .i64 i)⟩), (15, ⟨0, .val (.int .i64 n)⟩), (1, ⟨1, .own (.box 26 (.agg [.int .i64 m, .sl false 27 (rowsF ll)]))⟩)]) (fun i => i ≤ n ∧ ∀ i', i' < i → ok1 (pc ll) i') (fun i => n - i) 0 ⟨Nat.zero_le _, fun i hi => absurd hi (Nat.not_lt_zero _)⟩ (fun i => rfl) ?_ (fun i hi => ?_)
 ·simp [Sub, lk]
 ·by_cases hin : i < n
  ·have hrow := hl.row i hin
   have hj : 0 < (ll.getD i []).length := by omega
   by_cases h1 : i = 1
   ·by_cases hok : ok1 (pc ll) i
    ·have hv : pc ll i 0 = 1 := by have := hok; unfold ok1 at this; rwa [if_pos h1] at this
     (repeat (first | ((with_reducible refine rC rfl fun K hK => ?_); simp only [go_sem, seval, ↓reduceIte, show (i : Int) < (n : Int) by omega, show ((i : Int) == 1) = true by subst h1; rfl, Aj ll i (by rw [hl.len]; exact hin), Ac, hl.len, Int.toNat_natCast, Int.natCast_nonneg, Int.le_refl, Int.toNat_zero, Aa _ _ hj, hrow, show (0 : Int) < ((n - i : Nat) : Int) by omega, show (ll.getD i []).getD 0 0 = pc ll i 0 from rfl, hv, show ((1 : Int) != 1) = false from rfl, wid ((i : Int) + 1) (by omega) (by omega)]; refine hK _ _ _ ?_; clear hK K) | (with_reducible first | refine rN ?_ | refine sQ ?_ | refine tY hC hP ?_ | refine aY hC hM hP ?_ | refine kQ ?_ | refine lQ ?_ | refine eQ ?_ | refine bQ ?_ | refine cTa ?_ | refine cFa ?_) | simp only [qS, Nat.reduceEqDiff, ↓reduceIte]))
     refine ⟨i + 1, ⟨by omega, fun i' hi' => ?_⟩, by omega, by simp [Sub, lk]⟩
     by_cases e : i' = i
     ·rw [e]; exact hok
     ·exact hi.2 i' (by omega)
    ·have hv : (pc ll i 0 != 1) = true := by
      have := hok; unfold ok1 at this; rw [if_pos h1] at this; simpa using this
     (repeat (first | ((with_reducible refine rC rfl fun K hK => ?_); simp only [go_sem, seval, ↓reduceIte, show (i : Int) < (n : Int) by omega, show ((i : Int) == 1) = true by subst h1; rfl, Aj ll i (by rw [hl.len]; exact hin), Ac, hl.len, Int.toNat_natCast, Int.natCast_nonneg, Int.le_refl, Int.toNat_zero, Aa _ _ hj, hrow, show (0 : Int) < ((n - i : Nat) : Int) by omega, show (ll.getD i []).getD 0 0 = pc ll i 0 from rfl, hv]; refine hK _ _ _ ?_; clear hK K) | (with_reducible first | refine rN ?_ | refine sQ ?_ | refine tY hC hP ?_ | refine aY hC hM hP ?_ | refine kQ ?_ | refine lQ ?_ | refine eQ ?_ | refine bQ ?_ | refine cTa ?_ | refine cFa ?_) | simp only [qS, Nat.reduceEqDiff, ↓reduceIte]))
     refine rt1 ?_
     exact hr.one i hin hi.2 hok
   ·by_cases hok : ok1 (pc ll) i
    ·have hv : pc ll i 0 = 0 := by have := hok; unfold ok1 at this; rwa [if_neg h1] at this
     (repeat (first | ((with_reducible refine rC rfl fun K hK => ?_); simp only [go_sem, seval, ↓reduceIte, show (i : Int) < (n : Int) by omega, show ((i : Int) == 1) = false by rw [beq_eq_false_iff_ne]; omega, Aj ll i (by rw [hl.len]; exact hin), Ac, hl.len, Int.toNat_natCast, Int.natCast_nonneg, Int.le_refl, Int.toNat_zero, Aa _ _ hj, hrow, show (0 : Int) < ((n - i : Nat) : Int) by omega, show (ll.getD i []).getD 0 0 = pc ll i 0 from rfl, hv, show ((0 : Int) != 0) = false from rfl, wid ((i : Int) + 1) (by omega) (by omega)]; refine hK _ _ _ ?_; clear hK K) | (with_reducible first | refine rN ?_ | refine sQ ?_ | refine tY hC hP ?_ | refine aY hC hM hP ?_ | refine kQ ?_ | refine lQ ?_ | refine eQ ?_ | refine bQ ?_ | refine cTa ?_ | refine cFa ?_) | simp only [qS, Nat.reduceEqDiff, ↓reduceIte]))
     refine ⟨i + 1, ⟨by omega, fun i' hi' => ?_⟩, by omega, by simp [Sub, lk]⟩
     by_cases e : i' = i
     ·rw [e]; exact hok
     ·exact hi.2 i' (by omega)
    ·have hv : (pc ll i 0 != 0) = true := by
      have := hok; unfold ok1 at this; rw [if_neg h1] at this; simpa using this
     (repeat (first | ((with_reducible refine rC rfl fun K hK => ?_); simp only [go_sem, seval, ↓reduceIte, show (i : Int) < (n : Int) by omega, show ((i : Int) == 1) = false by rw [beq_eq_false_iff_ne]; omega, Aj ll i (by rw [hl.len]; exact hin), Ac, hl.len, Int.toNat_natCast, Int.natCast_nonneg, Int.le_refl, Int.toNat_zero, Aa _ _ hj, hrow, show (0 : Int) < ((n - i : Nat) : Int) by omega, show (ll.getD i []).getD 0 0 = pc ll i 0 from rfl, hv]; refine hK _ _ _ ?_; clear hK K) | (with_reducible first | refine rN ?_ | refine sQ ?_ | refine tY hC hP ?_ | refine aY hC hM hP ?_ | refine kQ ?_ | refine lQ ?_ | refine eQ ?_ | refine bQ ?_ | refine cTa ?_ | refine cFa ?_) | simp only [qS, Nat.reduceEqDiff, ↓reduceIte]))
     refine rt1 ?_
     exact hr.one i hin hi.2 hok
  ·have hA : ∀ i, i < n → ok1 (pc ll) i := fun i' h => hi.2 i' (by omega)
   (repeat (first | ((with_reducible refine rC rfl fun K hK => ?_); simp only [go_sem, seval, ↓reduceIte, show ¬ (i : Int) < (n : Int) by omega, Ac, hl.len]; refine hK _ _ _ ?_; clear hK K) | (with_reducible first | refine rN ?_ | refine sQ ?_ | refine tY hC hP ?_ | refine aY hC hM hP ?_ | refine kQ ?_ | refine lQ ?_ | refine eQ ?_ | refine bQ ?_ | refine cTa ?_ | refine cFa ?_) | simp only [qS, Nat.reduceEqDiff, ↓reduceIte]))
   refine AWP.loop (fun i : Nat => [(36, ⟨0, .val (.int .i64 i)⟩), (35, ⟨0, .val (.int .i64 n)⟩), (34, ⟨0, .val (.sl false 27 (rowsF ll))⟩), (1, ⟨1, .own (.box 26 (.agg [.int .i64 m, .sl false 27 (rowsF ll)]))⟩)]) (fun i => i ≤ n ∧ ∀ i', i' < i → ∀ j, ok2 n (pc ll) i' j) (fun i => n - i) 0 ⟨Nat.zero_le _, fun i hi => absurd hi (Nat.not_lt_zero _)⟩ (fun i => rfl) ?_ (fun i hi => ?_)
   ·simp [Sub, lk]
   ·by_cases hin : i < n
    ·have hrow := hl.row i hin
     (repeat (first | ((with_reducible refine rC rfl fun K hK => ?_); simp only [go_sem, seval, ↓reduceIte, show (i : Int) < (n : Int) by omega, Aj ll i (by rw [hl.len]; exact hin), Ac, hl.len, Int.toNat_natCast, Int.natCast_nonneg, wid ((i : Int) + 1) (by omega) (by omega)]; refine hK _ _ _ ?_; clear hK K) | (with_reducible first | refine rN ?_ | refine sQ ?_ | refine tY hC hP ?_ | refine aY hC hM hP ?_ | refine kQ ?_ | refine lQ ?_ | refine eQ ?_ | refine bQ ?_ | refine cTa ?_ | refine cFa ?_) | simp only [qS, Nat.reduceEqDiff, ↓reduceIte]))
     refine AWP.loop (fun j : Nat => [(7, ⟨0, .val (.int .i64 j)⟩), (5, ⟨0, .val (.int .i64 i)⟩), (6, ⟨0, .val (.sl false 2 (intL (ll.getD i [])))⟩), (36, ⟨0, .val (.int .i64 i)⟩), (35, ⟨0, .val (.int .i64 n)⟩), (34, ⟨0, .val (.sl false 27 (rowsF ll))⟩), (1, ⟨1, .own (.box 26 (.agg [.int .i64 m, .sl false 27 (rowsF ll)]))⟩)]) (fun j => i < j ∧ j ≤ n + 1 ∧ ∀ j', j' < j → ok2 n (pc ll) i j') (fun j => n + 2 - j) (i + 1) ⟨by omega, by omega, fun j hj => Abi (by omega)⟩ (fun i => rfl) ?_ (fun j hj => ?_)
     ·simp [Sub, lk]
     ·have w1 := widK (i + j) (by omega)
      by_cases hij : i + j < n
      ·have hrow2 := hl.row j (by omega)
       have k1 : j < (ll.getD i []).length := by omega
       have k2 : i < (ll.getD j []).length := by omega
       by_cases hok : ok2 n (pc ll) i j
       ·have hv : (pc ll i j != pc ll j i) = false := by simpa using hok hj.1 hij
        (repeat (first | ((with_reducible refine rC rfl fun K hK => ?_); simp only [go_sem, seval, ↓reduceIte, ← Int.natCast_add, w1, show (j : Int) < ((n - i : Nat) : Int) by omega, Aj ll i (by rw [hl.len]; omega), Aj ll j (by rw [hl.len]; omega), Ac, hl.len, show (i : Int) < (n : Int) by omega, show (j : Int) < (n : Int) by omega, Int.toNat_natCast, Int.natCast_nonneg, Aa _ _ k1, Aa _ _ k2, hrow, hrow2, show (j : Int) < ((n - i : Nat) : Int) by omega, show (i : Int) < ((n - j : Nat) : Int) by omega, show (ll.getD i []).getD j 0 = pc ll i j from rfl, show (ll.getD j []).getD i 0 = pc ll j i from rfl, hv, wid ((j : Int) + 1) (by omega) (by omega)]; refine hK _ _ _ ?_; clear hK K) | (with_reducible first | refine rN ?_ | refine sQ ?_ | refine tY hC hP ?_ | refine aY hC hM hP ?_ | refine kQ ?_ | refine lQ ?_ | refine eQ ?_ | refine bQ ?_ | refine cTa ?_ | refine cFa ?_) | simp only [qS, Nat.reduceEqDiff, ↓reduceIte]))
        refine ⟨j + 1, ⟨by omega, by omega, fun j' hj' => ?_⟩, by omega, by simp [Sub, lk]⟩
        by_cases e : j' = j
        ·rw [e]; exact hok
        ·exact hj.2.2 j' (by omega)
       ·have hv : (pc ll i j != pc ll j i) = true := by
         have h5 : ¬ pc ll i j = pc ll j i := fun h6 => hok fun _ _ => h6
         simpa using h5
        (repeat (first | ((with_reducible refine rC rfl fun K hK => ?_); simp only [go_sem, seval, ↓reduceIte, ← Int.natCast_add, w1, show (j : Int) < ((n - i : Nat) : Int) by omega, Aj ll i (by rw [hl.len]; omega), Aj ll j (by rw [hl.len]; omega), Ac, hl.len, show (i : Int) < (n : Int) by omega, show (j : Int) < (n : Int) by omega, Int.toNat_natCast, Int.natCast_nonneg, Aa _ _ k1, Aa _ _ k2, hrow, hrow2, show (j : Int) < ((n - i : Nat) : Int) by omega, show (i : Int) < ((n - j : Nat) : Int) by omega, show (ll.getD i []).getD j 0 = pc ll i j from rfl, show (ll.getD j []).getD i 0 = pc ll j i from rfl, hv]; refine hK _ _ _ ?_; clear hK K) | (with_reducible first | refine rN ?_ | refine sQ ?_ | refine tY hC hP ?_ | refine aY hC hM hP ?_ | refine kQ ?_ | refine lQ ?_ | refine eQ ?_ | refine bQ ?_ | refine cTa ?_ | refine cFa ?_) | simp only [qS, Nat.reduceEqDiff, ↓reduceIte]))
        refine rt1 ?_
        exact hr.two hA i j hi.2 hj.2.2 hok
      ·(repeat (first | ((with_reducible refine rC rfl fun K hK => ?_); simp only [go_sem, seval, ↓reduceIte, hrow, show ¬ (j : Int) < ((n - i : Nat) : Int) by omega, wid ((i : Int) + 1) (by omega) (by omega)]; refine hK _ _ _ ?_; clear hK K) | (with_reducible first | refine rN ?_ | refine sQ ?_ | refine tY hC hP ?_ | refine aY hC hM hP ?_ | refine kQ ?_ | refine lQ ?_ | refine eQ ?_ | refine bQ ?_ | refine cTa ?_ | refine cFa ?_) | simp only [qS, Nat.reduceEqDiff, ↓reduceIte]))
       refine ⟨i + 1, ⟨by omega, fun i' hi' j' => ?_⟩, by omega, by simp [Sub, lk]⟩
       by_cases e : i' = i
       ·rw [e]
        by_cases hjj : j' < j
        ·exact hj.2.2 j' hjj
        ·exact O3 (by omega)
       ·exact hi.2 i' (by omega) j'
    ·have hB : ∀ i j, ok2 n (pc ll) i j := fun i' j => by
      by_cases h5 : i' < i
      ·exact hi.2 i' h5 j
      ·exact O3 (by omega)
     have hz := Vn m ll n hm hm2 hl hn hn2
     have hD := A5 m ll (by rw [hl.len]; omega)
     rw [hl.len, show (n : Int) - 1 = ((n - 1 : Nat) : Int) by omega] at hD
     repeat (fail_if_success (refine AWP.seq (AWP.callZ2 hC hP md (by decide) rfl rfl rfl (by kernel_rfl) (by decide) hz ?_))); (first | ((with_reducible refine rC rfl fun K hK => ?_); simp only [go_sem, seval, ↓reduceIte, show ¬ (i : Int) < (n : Int) by omega]; refine hK _ _ _ ?_; clear hK K) | (with_reducible first | refine rN ?_ | refine sQ ?_ | refine tY hC hP ?_ | refine aY hC hM hP ?_ | refine kQ ?_ | refine lQ ?_ | refine eQ ?_ | refine bQ ?_ | refine cTa ?_ | refine cFa ?_) | simp only [qS, Nat.reduceEqDiff, ↓reduceIte])
     refine AWP.freeze 1 rfl ?_
     simp only [T.freeze, T.freezeL, Fk]
     refine AWP.sub (e1 := [(1, ⟨1, .val (.fptr (.agg [.int .i64 m, .sl false 27 (rowsF ll)]))⟩)]) (by simp [Sub, lk]) rfl ?_
     refine AWP.seq (AWP.callZ2 hC hP md (by decide) rfl rfl rfl (by kernel_rfl) (by decide) hz ?_)
     simp only [go_sem, seval, ↓reduceIte]
     refine ⟨by simp [pureEnv, T.pure, T.pureL, Cn], ⟨_, rfl⟩, ?_⟩
     (repeat (first | ((with_reducible refine rC rfl fun K hK => ?_); simp only [go_sem, seval, ↓reduceIte]; (first | refine hK _ _ _ ?_ | refine ⟨_, hD, hK _ _ _ ?_⟩); clear hK K) | (with_reducible first | refine rN ?_ | refine sQ ?_ | refine tY hC hP ?_ | refine aY hC hM hP ?_ | refine kQ ?_ | refine lQ ?_ | refine eQ ?_ | refine bQ ?_ | refine cTa ?_ | refine cFa ?_) | simp only [qS, Nat.reduceEqDiff, ↓reduceIte]))
     refine AWP.loop (fun a : Nat => [(10, ⟨0, .val (.int .i64 a)⟩), (9, ⟨0, .val (.int .i64 (n - 1 : Nat))⟩), (8, ⟨0, .val (.fn 251 [.fptr (.int .i64 (n - 1 : Nat)), .fptr (.agg [.int .i64 m, .sl false 27 (rowsF ll)]), .fptr (.sl false 26 (plF m (pwL2 m n (pc ll) n)))])⟩)]) (fun a => a ≤ n ∧ ∀ a', a' < a → ∀ b k, ok3 m n (pc ll) a' b k) (fun a => n - a) 0 ⟨Nat.zero_le _, fun i hi => absurd hi (Nat.not_lt_zero _)⟩ (fun i => rfl) ?_ (fun a ha => ?_)
     ·simp [Sub, lk]
     ·by_cases hac : a < n
      ·(repeat (first | ((with_reducible refine rC rfl fun K hK => ?_); simp only [go_sem, seval, ↓reduceIte, show (a : Int) ≤ ((n - 1 : Nat) : Int) by omega]; refine hK _ _ _ ?_; clear hK K) | (with_reducible first | refine rN ?_ | refine sQ ?_ | refine tY hC hP ?_ | refine aY hC hM hP ?_ | refine kQ ?_ | refine lQ ?_ | refine eQ ?_ | refine bQ ?_ | refine cTa ?_ | refine cFa ?_) | simp only [qS, Nat.reduceEqDiff, ↓reduceIte]))
       refine AWP.loop (fun b : Nat => [(11, ⟨0, .val (.int .i64 b)⟩), (10, ⟨0, .val (.int .i64 a)⟩), (9, ⟨0, .val (.int .i64 (n - 1 : Nat))⟩), (8, ⟨0, .val (.fn 251 [.fptr (.int .i64 (n - 1 : Nat)), .fptr (.agg [.int .i64 m, .sl false 27 (rowsF ll)]), .fptr (.sl false 26 (plF m (pwL2 m n (pc ll) n)))])⟩)]) (fun b => a + b ≤ n ∧ ∀ b', b' < b → ∀ k, ok3 m n (pc ll) a b' k) (fun b => n - b) 0 ⟨by omega, fun i hi => absurd hi (Nat.not_lt_zero _)⟩ (fun i => rfl) ?_ (fun b hb => ?_)
       ·simp [Sub, lk]
       ·have w1 := widK (a + b) (by omega)
        by_cases hbc : a + b < n
        ·(repeat (first | ((with_reducible refine rC rfl fun K hK => ?_); simp only [go_sem, seval, ↓reduceIte, ← Int.natCast_add, w1, show ((a + b : Nat) : Int) ≤ ((n - 1 : Nat) : Int) by omega]; refine hK _ _ _ ?_; clear hK K) | (with_reducible first | refine rN ?_ | refine sQ ?_ | refine tY hC hP ?_ | refine aY hC hM hP ?_ | refine kQ ?_ | refine lQ ?_ | refine eQ ?_ | refine bQ ?_ | refine cTa ?_ | refine cFa ?_) | simp only [qS, Nat.reduceEqDiff, ↓reduceIte]))
         refine AWP.loop (fun k : Nat => [(12, ⟨0, .val (.int .i64 k)⟩), (11, ⟨0, .val (.int .i64 b)⟩), (10, ⟨0, .val (.int .i64 a)⟩), (9, ⟨0, .val (.int .i64 (n - 1 : Nat))⟩), (8, ⟨0, .val (.fn 251 [.fptr (.int .i64 (n - 1 : Nat)), .fptr (.agg [.int .i64 m, .sl false 27 (rowsF ll)]), .fptr (.sl false 26 (plF m (pwL2 m n (pc ll) n)))])⟩)]) (fun k => a + b + k ≤ n ∧ ∀ k', k' < k → ok3 m n (pc ll) a b k') (fun k => n - k) 0 ⟨by omega, fun i hi => absurd hi (Nat.not_lt_zero _)⟩ (fun i => rfl) ?_ (fun k hk => ?_)
         ·simp [Sub, lk]
         ·have w2 := widK (a + b + k) (by omega)
          by_cases hkc : a + b + k < n
          ·have hF := Lw m ll n a b k hm hm2 hl hn2 hkc
           by_cases hok : ok3 m n (pc ll) a b k
           ·have hv : (defI m n (pc ll) a b k != 0) = false := by rw [Qx.2 (hok hkc)]; rfl
            (repeat (first | ((with_reducible refine rC rfl fun K hK => ?_); simp only [go_sem, seval, ↓reduceIte, ← Int.natCast_add, w1, w2, show ((a + b + k : Nat) : Int) ≤ ((n - 1 : Nat) : Int) by omega, hv, wid ((k : Int) + 1) (by omega) (by omega)]; (first | refine hK _ _ _ ?_ | refine ⟨_, hF, hK _ _ _ ?_⟩); clear hK K) | (with_reducible first | refine rN ?_ | refine sQ ?_ | refine tY hC hP ?_ | refine aY hC hM hP ?_ | refine kQ ?_ | refine lQ ?_ | refine eQ ?_ | refine bQ ?_ | refine cTa ?_ | refine cFa ?_) | simp only [qS, Nat.reduceEqDiff, ↓reduceIte]))
            refine ⟨k + 1, ⟨by omega, fun k' hk' => ?_⟩, by omega, by simp [Sub, lk]⟩
            by_cases e : k' = k
            ·rw [e]; exact hok
            ·exact hk.2 k' (by omega)
           ·have hv : (defI m n (pc ll) a b k != 0) = true := by
             have h5 : ¬ defI m n (pc ll) a b k = 0 := fun h6 => hok fun _ => Qx.1 h6
             simpa using h5
            (repeat (first | ((with_reducible refine rC rfl fun K hK => ?_); simp only [go_sem, seval, ↓reduceIte, ← Int.natCast_add, w1, w2, show ((a + b + k : Nat) : Int) ≤ ((n - 1 : Nat) : Int) by omega, hv]; (first | refine hK _ _ _ ?_ | refine ⟨_, hF, hK _ _ _ ?_⟩); clear hK K) | (with_reducible first | refine rN ?_ | refine sQ ?_ | refine tY hC hP ?_ | refine aY hC hM hP ?_ | refine kQ ?_ | refine lQ ?_ | refine eQ ?_ | refine bQ ?_ | refine cTa ?_ | refine cFa ?_) | simp only [qS, Nat.reduceEqDiff, ↓reduceIte]))
            refine rt1 ?_
            exact hr.three hA hB a b k ha.2 hb.2 hk.2 hok
          ·(repeat (first | ((with_reducible refine rC rfl fun K hK => ?_); simp only [go_sem, seval, ↓reduceIte, ← Int.natCast_add, w1, w2, show ¬ ((a + b + k : Nat) : Int) ≤ ((n - 1 : Nat) : Int) by omega, wid ((b : Int) + 1) (by omega) (by omega)]; refine hK _ _ _ ?_; clear hK K) | (with_reducible first | refine rN ?_ | refine sQ ?_ | refine tY hC hP ?_ | refine aY hC hM hP ?_ | refine kQ ?_ | refine lQ ?_ | refine eQ ?_ | refine bQ ?_ | refine cTa ?_ | refine cFa ?_) | simp only [qS, Nat.reduceEqDiff, ↓reduceIte]))
           refine ⟨b + 1, ⟨by omega, fun b' hb' k' => ?_⟩, by omega, by simp [Sub, lk]⟩
           by_cases e : b' = b
           ·rw [e]
            by_cases hkk : k' < k
            ·exact hk.2 k' hkk
            ·exact I9 (by omega)
           ·exact hb.2 b' (by omega) k'
        ·(repeat (first | ((with_reducible refine rC rfl fun K hK => ?_); simp only [go_sem, seval, ↓reduceIte, ← Int.natCast_add, w1, show ¬ ((a + b : Nat) : Int) ≤ ((n - 1 : Nat) : Int) by omega, wid ((a : Int) + 1) (by omega) (by omega)]; refine hK _ _ _ ?_; clear hK K) | (with_reducible first | refine rN ?_ | refine sQ ?_ | refine tY hC hP ?_ | refine aY hC hM hP ?_ | refine kQ ?_ | refine lQ ?_ | refine eQ ?_ | refine bQ ?_ | refine cTa ?_ | refine cFa ?_) | simp only [qS, Nat.reduceEqDiff, ↓reduceIte]))
         refine ⟨a + 1, ⟨by omega, fun a' ha' b' k' => ?_⟩, by omega, by simp [Sub, lk]⟩
         by_cases e : a' = a
         ·rw [e]
          by_cases hbb : b' < b
          ·exact hb.2 b' hbb k'
          ·exact I9 (by omega)
         ·exact ha.2 a' (by omega) b' k'
      ·(repeat (first | ((with_reducible refine rC rfl fun K hK => ?_); simp only [go_sem, seval, ↓reduceIte, show ¬ (a : Int) ≤ ((n - 1 : Nat) : Int) by omega]; refine hK _ _ _ ?_; clear hK K) | (with_reducible first | refine rN ?_ | refine sQ ?_ | refine tY hC hP ?_ | refine aY hC hM hP ?_ | refine kQ ?_ | refine lQ ?_ | refine eQ ?_ | refine bQ ?_ | refine cTa ?_ | refine cFa ?_) | simp only [qS, Nat.reduceEqDiff, ↓reduceIte]))
       refine rt1 ?_
       exact hr.none ⟨hA, hB, fun a' b' k' => by
        by_cases h5 : a' < a
        ·exact ha.2 a' h5 b' k'
        ·exact I9 (by omega)⟩
end Go.Proofs.YtapdekacpecgiaaGreat

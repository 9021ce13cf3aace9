import Derived.Test.YtapdekacpecgiaaGreatKg
namespace Go.Proofs.YtapdekacpecgiaaGreat
open Go.RowKit
set_option linter.unusedSimpArgs false
set_option linter.unusedVariables false
set_option linter.unusedSectionVars false
set_option maxRecDepth 20000
set_option maxHeartbeats 1000000
theorem AFz.of' {P : Program} {tt : Tt} (hP : TtOk P tt) {f : FuncId} {fn : Func} {c : Code} {args : List T} {r : T} {n t : Nat} {e : Env} (hf : P.funcs[f]? = some fn) (hn : fn.ntmps = n) (h3 : fn.results.toList = [.tmp t]) (hb : fn.body = some c) (hname : (fn.name == "runtime.NumGoroutine") = false) (hargs : args.length ≤ n) (ht : t < 1000000)
  (hr : r.pure = true) (hap : T.pureL args = true) (he : argEnv 0 args = e) (hm : P.follows .mixedOrders = true) (h : ∀ C : Ctx, TtOk C.P tt → C.P.follows .mixedOrders = true → C.P = P → AWP C n c (endZ t r) e) : AFz P f args r := by
 subst hn; subst he
 exact AFz.of hf hb hname hargs h3 ht hr hap (fun C hC => h C (hC ▸ hP) (hC ▸ hm) hC)
theorem Nm {f : Nat → Int} {m : Int} (hm : 0 < m) : ∀ k, (∀ i, i < k → 0 ≤ f i ∧ f i < m) → 0 ≤ sm k f ∧ sm k f ≤ k * m
 | 0, _ => by simp [sm]
 | k + 1, h => by
  have ih := Nm hm k (fun i hi => h i (by omega))
  have h1 := h k (by omega)
  have e : ((k + 1 : Nat) : Int) * m = (k : Int) * m + m := by rw [Int.natCast_add, Int.add_mul]; simp
  simp only [sm]
  omega
def lfM (m : Int) (n : Nat) (t : Nat → Nat → Int) (a b c k : Nat) : Int := sm k (fun i => t i c * pc (pwP m n t i) a b % m)
def rtM (m : Int) (n : Nat) (t : Nat → Nat → Int) (a b c k : Nat) : Int := sm k (fun j => t a j * pc (pwP m n t j) b c % m)
theorem Ag0 {m : Int} (hm : 0 < m) (hm2 : m ≤ 10000) (n : Nat) (t : Nat → Nat → Int) (a b c k : Nat) (hk : k ≤ 1000) : 0 ≤ lfM m n t a b c k ∧ lfM m n t a b c k ≤ 10000000 := by
 have h := Nm (f := fun i => t i c * pc (pwP m n t i) a b % m) hm k (fun i _ => As _ m hm)
 have h2 : (k : Int) * m ≤ 1000 * 10000 := Int.mul_le_mul (by omega) hm2 (by omega) (by omega)
 exact ⟨h.1, Int.le_trans h.2 h2⟩
theorem Agx {m : Int} (hm : 0 < m) (hm2 : m ≤ 10000) (n : Nat) (t : Nat → Nat → Int) (a b c k : Nat) (hk : k ≤ 1000) : 0 ≤ rtM m n t a b c k ∧ rtM m n t a b c k ≤ 10000000 := by
 have h := Nm (f := fun j => t a j * pc (pwP m n t j) b c % m) hm k (fun i _ => As _ m hm)
 have h2 : (k : Int) * m ≤ 1000 * 10000 := Int.mul_le_mul (by omega) hm2 (by omega) (by omega)
 exact ⟨h.1, Int.le_trans h.2 h2⟩
def defI (m : Int) (n : Nat) (t : Nat → Nat → Int) (a b c : Nat) : Int := (lfM m n t a b c (n - c) - rtM m n t a b c (n - a)) % m
theorem Qx {m : Int} {n : Nat} {t : Nat → Nat → Int} {a b c : Nat} : defI m n t a b c = 0 ↔ lfS m n t a b c % m = rtS m n t a b c % m := by
 have e1 : lfM m n t a b c (n - c) % m = lfS m n t a b c % m := Bd fun i _ => Int.emod_emod _ _
 have e2 : rtM m n t a b c (n - a) % m = rtS m n t a b c % m := Bd fun i _ => Int.emod_emod _ _
 rw [← e1, ← e2, defI]
 exact Int.emod_eq_emod_iff_emod_sub_eq_zero.symm
set_option maxHeartbeats 2000000 in
theorem Lw (m : Int) (ll : List (List Int)) (n a b c : Nat) (hm : 0 < m) (hm2 : m ≤ 10000) (hl : Pl m n ll) (hn2 : n ≤ 1000) (h : a + b + c < n) : AFn Tryz.prog 251 [.int .i64 a, .int .i64 b, .int .i64 c, .fptr (.int .i64 (n - 1 : Nat)), .fptr (.agg [.int .i64 m, .sl false 27 (rowsF ll)]), .fptr (.sl false 26 (plF m (pwL2 m n (pc ll) n)))] (.int .i64 (defI m n (pc ll) a b c)) := by
 refine fO Tryz.func251 Tryz.ntmps251 (by rw [Tryz.results251]) fun C hP hM hC => ?_
 have hm0 : m ≠ 0 := by omega
 (repeat (first | ((with_reducible refine rC rfl fun K hK => ?_); simp only [go_sem, seval, ↓reduceIte]; refine hK _ _ _ ?_; clear hK K) | (with_reducible first | refine rN ?_ | refine sQ ?_ | refine tY hC hP ?_ | refine aY hC hM hP ?_ | refine kQ ?_ | refine lQ ?_ | refine eQ ?_ | refine bQ ?_ | refine cTa ?_ | refine cFa ?_) | simp only [qS, Nat.reduceEqDiff, ↓reduceIte]))
 refine AWP.loop (fun i : Nat => [(12, ⟨0, .val (.int .i64 i)⟩), (10, ⟨0, .val (.int .i64 (lfM m n (pc ll) a b c i))⟩), (11, ⟨0, .val (.int .i64 0)⟩), (0, ⟨0, .val (.int .i64 a)⟩), (1, ⟨0, .val (.int .i64 b)⟩), (2, ⟨0, .val (.int .i64 c)⟩), (3, ⟨0, .val (.fptr (.int .i64 (n - 1 : Nat)))⟩), (4, ⟨0, .val (.fptr (.agg [.int .i64 m, .sl false 27 (rowsF ll)]))⟩), (5, ⟨0, .val (.fptr (.sl false 26 (plF m (pwL2 m n (pc ll) n))))⟩)]) (fun i => i + c ≤ n) (fun i => n - i) 0 (by omega) (fun i => rfl) ?_ (fun i hi => ?_)
 ·simp [Sub, lk, lfM, sm]
 ·have s1 : IntKind.i64.wrap (((n - 1 : Nat) : Int) - (c : Int)) = ((n - 1 - c : Nat) : Int) := by rw [wid _ (by omega) (by omega)]; omega
  by_cases hic : i + c < n
  ·have r1 := hl.row i (by omega)
   have k1 : c < (ll.getD i []).length := by omega
   have pp := Sg hm n (pc ll) i
   have r2 := pp.row a (by omega)
   have k2 : b < ((pwP m n (pc ll) i).getD a []).length := by omega
   have x1 := hl.num i c
   have x2 := pp.num a b
   have xy := Dn x1.1 x1.2 x2.1 x2.2 hm2
   have xm := As (pc ll i c * pc (pwP m n (pc ll) i) a b) m hm
   have lb := Ag0 hm hm2 n (pc ll) a b c i (by omega)
   (repeat (first | ((with_reducible refine rC rfl fun K hK => ?_); simp only [go_sem, seval, ↓reduceIte, s1, show (i : Int) ≤ ((n - 1 - c : Nat) : Int) by omega, Aj ll i (by rw [hl.len]; omega), Ac, hl.len, Int.toNat_natCast, Int.natCast_nonneg, show (i : Int) < (n : Int) by omega, Aa _ _ k1, r1, show (c : Int) < ((n - i : Nat) : Int) by omega, show (ll.getD i []).getD c 0 = pc ll i c from rfl, S5 m (pwL2 m n (pc ll) n) i (by rw [Ed]; omega), Kc, Ed, Lk (show i < n by omega), Aj (pwP m n (pc ll) i) a (by rw [pp.len]; omega), pp.len, show (a : Int) < (n : Int) by omega, Aa _ _ k2, r2, show (b : Int) < ((n - a : Nat) : Int) by omega, show ((pwP m n (pc ll) i).getD a []).getD b 0 = pc (pwP m n (pc ll) i) a b from rfl, wid (pc ll i c * pc (pwP m n (pc ll) i) a b) (by omega) (by omega), tm _ m xy.1, hm0, wid (lfM m n (pc ll) a b c i + pc ll i c * pc (pwP m n (pc ll) i) a b % m) (by omega) (by omega), wid ((i : Int) + 1) (by omega) (by omega)]; refine hK _ _ _ ?_; clear hK K) | (with_reducible first | refine rN ?_ | refine sQ ?_ | refine tY hC hP ?_ | refine aY hC hM hP ?_ | refine kQ ?_ | refine lQ ?_ | refine eQ ?_ | refine bQ ?_ | refine cTa ?_ | refine cFa ?_) | simp only [qS, Nat.reduceEqDiff, ↓reduceIte]))
   exact ⟨i + 1, by omega, by omega, by simp [Sub, lk, lfM, sm]⟩
  ·have e : i = n - c := by omega
   have lb := Ag0 hm hm2 n (pc ll) a b c (n - c) (by omega)
   (repeat (first | ((with_reducible refine rC rfl fun K hK => ?_); simp only [go_sem, seval, ↓reduceIte, s1, show ¬ (i : Int) ≤ ((n - 1 - c : Nat) : Int) by omega]; refine hK _ _ _ ?_; clear hK K) | (with_reducible first | refine rN ?_ | refine sQ ?_ | refine tY hC hP ?_ | refine aY hC hM hP ?_ | refine kQ ?_ | refine lQ ?_ | refine eQ ?_ | refine bQ ?_ | refine cTa ?_ | refine cFa ?_) | simp only [qS, Nat.reduceEqDiff, ↓reduceIte]))
   refine AWP.loop (fun j : Nat => [(13, ⟨0, .val (.int .i64 j)⟩), (10, ⟨0, .val (.int .i64 (lfM m n (pc ll) a b c (n - c)))⟩), (11, ⟨0, .val (.int .i64 (rtM m n (pc ll) a b c j))⟩), (0, ⟨0, .val (.int .i64 a)⟩), (1, ⟨0, .val (.int .i64 b)⟩), (2, ⟨0, .val (.int .i64 c)⟩), (3, ⟨0, .val (.fptr (.int .i64 (n - 1 : Nat)))⟩), (4, ⟨0, .val (.fptr (.agg [.int .i64 m, .sl false 27 (rowsF ll)]))⟩), (5, ⟨0, .val (.fptr (.sl false 26 (plF m (pwL2 m n (pc ll) n))))⟩)]) (fun j => j + a ≤ n) (fun j => n - j) 0 (by omega) (fun i => rfl) ?_ (fun j hj => ?_)
   ·simp [Sub, lk, rtM, sm, e]
   ·have s2 : IntKind.i64.wrap (((n - 1 : Nat) : Int) - (a : Int)) = ((n - 1 - a : Nat) : Int) := by rw [wid _ (by omega) (by omega)]; omega
    by_cases hja : j + a < n
    ·have r1 := hl.row a (by omega)
     have k1 : j < (ll.getD a []).length := by omega
     have pp := Sg hm n (pc ll) j
     have r2 := pp.row b (by omega)
     have k2 : c < ((pwP m n (pc ll) j).getD b []).length := by omega
     have x1 := hl.num a j
     have x2 := pp.num b c
     have xy := Dn x1.1 x1.2 x2.1 x2.2 hm2
     have xm := As (pc ll a j * pc (pwP m n (pc ll) j) b c) m hm
     have rb := Agx hm hm2 n (pc ll) a b c j (by omega)
     (repeat (first | ((with_reducible refine rC rfl fun K hK => ?_); simp only [go_sem, seval, ↓reduceIte, s2, show (j : Int) ≤ ((n - 1 - a : Nat) : Int) by omega, Aj ll a (by rw [hl.len]; omega), Ac, hl.len, Int.toNat_natCast, Int.natCast_nonneg, show (a : Int) < (n : Int) by omega, Aa _ _ k1, r1, show (j : Int) < ((n - a : Nat) : Int) by omega, show (ll.getD a []).getD j 0 = pc ll a j from rfl, S5 m (pwL2 m n (pc ll) n) j (by rw [Ed]; omega), Kc, Ed, Lk (show j < n by omega), Aj (pwP m n (pc ll) j) b (by rw [pp.len]; omega), pp.len, show (j : Int) < (n : Int) by omega, show (b : Int) < (n : Int) by omega, Aa _ _ k2, r2, show (c : Int) < ((n - b : Nat) : Int) by omega, show ((pwP m n (pc ll) j).getD b []).getD c 0 = pc (pwP m n (pc ll) j) b c from rfl, wid (pc ll a j * pc (pwP m n (pc ll) j) b c) (by omega) (by omega), tm _ m xy.1, hm0, wid (rtM m n (pc ll) a b c j + pc ll a j * pc (pwP m n (pc ll) j) b c % m) (by omega) (by omega), wid ((j : Int) + 1) (by omega) (by omega)]; refine hK _ _ _ ?_; clear hK K) | (with_reducible first | refine rN ?_ | refine sQ ?_ | refine tY hC hP ?_ | refine aY hC hM hP ?_ | refine kQ ?_ | refine lQ ?_ | refine eQ ?_ | refine bQ ?_ | refine cTa ?_ | refine cFa ?_) | simp only [qS, Nat.reduceEqDiff, ↓reduceIte]))
     exact ⟨j + 1, by omega, by omega, by simp [Sub, lk, rtM, sm]⟩
    ·have e2 : j = n - a := by omega
     have rb := Agx hm hm2 n (pc ll) a b c j (by omega)
     (repeat (first | ((with_reducible refine rC rfl fun K hK => ?_); simp only [go_sem, seval, ↓reduceIte, s2, show ¬ (j : Int) ≤ ((n - 1 - a : Nat) : Int) by omega, wid (lfM m n (pc ll) a b c (n - c) - rtM m n (pc ll) a b c j) (by omega) (by omega)]; (first | refine hK _ _ _ ?_ | refine ⟨_, Co _ m hm (by omega), hK _ _ _ ?_⟩); clear hK K) | (with_reducible first | refine rN ?_ | refine sQ ?_ | refine tY hC hP ?_ | refine aY hC hM hP ?_ | refine kQ ?_ | refine lQ ?_ | refine eQ ?_ | refine bQ ?_ | refine cTa ?_ | refine cFa ?_) | simp only [qS, Nat.reduceEqDiff, ↓reduceIte]))
     refine rt1 ?_
     rw [e2]; rfl
theorem Vn (m : Int) (ll : List (List Int)) (n : Nat) (hm : 0 < m) (hm2 : m ≤ 10000) (hl : Pl m n ll) (hn : 1 ≤ n) (hn2 : n ≤ 1000) : AFz Tryz.prog 210 [.agg [.int .i64 m, .sl false 27 (rowsF ll)]] (.fn 251 [.fptr (.int .i64 (n - 1 : Nat)), .fptr (.agg [.int .i64 m, .sl false 27 (rowsF ll)]), .fptr (.sl false 26 (plF m (pwL2 m n (pc ll) n)))]) := by
 refine AFz.of' (t := 2) ttOk Tryz.func210 Tryz.ntmps210 (by rw [Tryz.results210]) (by rfl) (by rfl) (by simp) (by decide) (by simp [T.pure, T.pureL, Cn, Ht]) (by simp [T.pure, T.pureL, Cn]) (by simp only [go_sem, Nat.reduceAdd, ↓reduceIte]; rfl) mixed (fun C hP hM hC => ?_)
 have hD := A5 m ll (by rw [hl.len]; omega)
 rw [hl.len, show (n : Int) - 1 = ((n - 1 : Nat) : Int) by omega] at hD
 repeat (fail_if_success (refine AWP.freeze 3 rfl ?_)); (first | ((with_reducible refine rC rfl fun K hK => ?_); simp only [go_sem, seval, ↓reduceIte]; (first | refine hK _ _ _ ?_ | refine ⟨_, hD, hK _ _ _ ?_⟩ | refine ⟨_, Kv m ll n hm hm2 hl hn hn2, hK _ _ _ ?_⟩); clear hK K) | (with_reducible first | refine rN ?_ | refine sQ ?_ | refine tY hC hP ?_ | refine aY hC hM hP ?_ | refine kQ ?_ | refine lQ ?_ | refine eQ ?_ | refine bQ ?_ | refine cTa ?_ | refine cFa ?_) | simp only [qS, Nat.reduceEqDiff, ↓reduceIte])
 refine AWP.freeze 3 rfl ?_
 refine AWP.freeze 4 rfl ?_
 refine AWP.freeze 1 rfl ?_
 simp only [T.freeze, T.freezeL, J4, Fk]
 (repeat (first | ((with_reducible refine rC rfl fun K hK => ?_); simp only [go_sem, seval, ↓reduceIte]; refine hK _ _ _ ?_; clear hK K) | (with_reducible first | refine rN ?_ | refine sQ ?_ | refine tY hC hP ?_ | refine aY hC hM hP ?_ | refine kQ ?_ | refine lQ ?_ | refine eQ ?_ | refine bQ ?_ | refine cTa ?_ | refine cFa ?_) | simp only [qS, Nat.reduceEqDiff, ↓reduceIte]))
 refine AWP.ret ?_
 exact ⟨_, rfl⟩
end Go.Proofs.YtapdekacpecgiaaGreat

import Derived.Test.YtapdekacpecgiaaGreatLd
import Derived.Test.YtapdekacpecgiaaGreatLcc
import Derived.Test.YtapdekacpecgiaaGreatLc
import Derived.Test.YtapdekacpecgiaaGreatPa
namespace Go.Proofs.YtapdekacpecgiaaGreat
open Go.RowKit
set_option linter.unusedSimpArgs false
set_option linter.unusedVariables false
set_option linter.unusedSectionVars false
set_option maxRecDepth 20000
set_option maxHeartbeats 1000000
theorem Gz (m : Int) (la : List Int) (d : Nat) (hm : 1 < m) (hm2 : m ≤ 10000) (ha : ∀ x ∈ la, 0 ≤ x ∧ x < m) (h0 : 0 < la.length) (hla : la.length ≤ 1000000) (hd : d ≤ 999999) : AFn Tryz.prog 225 [.int .i64 m, .sl false 2 (intL la), .int .i64 d] (.sl true 2 (intL (invS m la d))) := by
 refine fO Tryz.func225 Tryz.ntmps225 (by rw [Tryz.results225]) fun C hP hM hC => ?_
 have hu := Bv m (at' la 0) (by omega)
 (repeat (first | ((with_reducible refine rC rfl fun K hK => ?_); simp only [go_sem, seval, ↓reduceIte, Aa la 0 h0, show la.getD 0 0 = at' la 0 from rfl, Int.toNat_zero, Int.le_refl, show (0 : Int) < (la.length : Int) by omega]; (first | refine hK _ _ _ ?_ | refine ⟨_, E7 m (at' la 0) (by omega) (by omega), hK _ _ _ ?_⟩); clear hK K) | (with_reducible first | refine rN ?_ | refine sQ ?_ | refine tY hC hP ?_ | refine aY hC hM hP ?_ | refine kQ ?_ | refine lQ ?_ | refine eQ ?_ | refine bQ ?_ | refine cTa ?_ | refine cFa ?_) | simp only [qS, Nat.reduceEqDiff, ↓reduceIte]))
 refine AWP.loop (fun w : Nat × Nat => [(9, ⟨0, .val (.int .i64 w.1)⟩), (8, ⟨w.2, .own (.sl true 2 (intL (iL m (invL m (at' la 0)) (at' la) w.1)))⟩), (7, ⟨0, .val (.int .i64 (invL m (at' la 0)))⟩), (0, ⟨0, .val (.int .i64 m)⟩), (1, ⟨0, .val (.sl false 2 (intL la))⟩), (2, ⟨0, .val (.int .i64 d)⟩)]) (fun w => 0 < w.1 ∧ w.1 ≤ d + 1) (fun w => d + 1 - w.1) (1, 1) ⟨by omega, by omega⟩ (fun i => rfl) ?_ (fun w hw => ?_)
 ·simp [Sub, lk, Abm, intL]
 ·obtain ⟨n, v8⟩ := w
  simp only at hw ⊢
  by_cases hn : n ≤ d
  ·have hol := D4 m (invL m (at' la 0)) (at' la) n
   have hon := S3 (u := invL m (at' la 0)) (at' la) n (show 0 < m by omega) hu
   generalize ho : iL m (invL m (at' la 0)) (at' la) n = o at hol hon
   (repeat (first | ((with_reducible refine rC rfl fun K hK => ?_); simp only [go_sem, seval, ↓reduceIte, show (n : Int) ≤ (d : Int) by omega]; refine hK _ _ _ ?_; clear hK K) | (with_reducible first | refine rN ?_ | refine sQ ?_ | refine tY hC hP ?_ | refine aY hC hM hP ?_ | refine kQ ?_ | refine lQ ?_ | refine eQ ?_ | refine bQ ?_ | refine cTa ?_ | refine cFa ?_) | simp only [qS, Nat.reduceEqDiff, ↓reduceIte]))
   refine AWP.loop (fun c : Nat => [(11, ⟨0, .val (.int .i64 (c + 1 : Nat))⟩), (10, ⟨0, .val (.int .i64 (sm c (fun i => at' la (i + 1) * at' o (n - 1 - i)) % m))⟩), (9, ⟨0, .val (.int .i64 n)⟩), (8, ⟨v8, .own (.sl true 2 (intL o))⟩), (7, ⟨0, .val (.int .i64 (invL m (at' la 0)))⟩), (0, ⟨0, .val (.int .i64 m)⟩), (1, ⟨0, .val (.sl false 2 (intL la))⟩), (2, ⟨0, .val (.int .i64 d)⟩)]) (fun c => c ≤ n) (fun c => n - c) 0 (by omega) (fun i => rfl) ?_ (fun c hc => ?_)
   ·simp [Sub, lk, sm]
   ·have hs := As (sm c (fun i => at' la (i + 1) * at' o (n - 1 - i))) m (by omega)
    by_cases hc2 : c + 1 ≤ n ∧ c + 1 < la.length
    ·have hx := Af ha (by omega) (c + 1)
     have hy := Af hon (by omega) (n - 1 - c)
     have hxy := Dn hx.1 hx.2 hy.1 hy.2 hm2
     have e1 : (sm c (fun i => at' la (i + 1) * at' o (n - 1 - i)) % m + at' la (c + 1) * at' o (n - 1 - c)) % m = sm (c + 1) (fun i => at' la (i + 1) * at' o (n - 1 - i)) % m := by rw [Int.emod_add_emod]; rfl
     (repeat (first | ((with_reducible refine rC rfl fun K hK => ?_); simp only [go_sem, seval, ↓reduceIte, show (((c + 1 : Nat) : Int) ≤ (n : Int)) by omega, show (((c + 1 : Nat) : Int) < (la.length : Int)) by omega, Aa la (c + 1) hc2.2, show la.getD (c + 1) 0 = at' la (c + 1) from rfl, Int.toNat_natCast, Int.natCast_nonneg, wid ((n : Int) - ((c + 1 : Nat) : Int)) (by omega) (by omega), show (0 : Int) ≤ (n : Int) - ((c + 1 : Nat) : Int) by omega, show (n : Int) - ((c + 1 : Nat) : Int) < (o.length : Int) by omega, show ((n : Int) - ((c + 1 : Nat) : Int)).toNat = n - 1 - c by omega, Ae o (n - 1 - c) (by omega), Nat.mul_one, Ab o (n - 1 - c) (by omega), show o.getD (n - 1 - c) 0 = at' o (n - 1 - c) from rfl, wid (at' la (c + 1) * at' o (n - 1 - c)) (by omega) (by omega), wid (sm c (fun i => at' la (i + 1) * at' o (n - 1 - i)) % m + at' la (c + 1) * at' o (n - 1 - c)) (by omega) (by omega), tm (sm c (fun i => at' la (i + 1) * at' o (n - 1 - i)) % m + at' la (c + 1) * at' o (n - 1 - c)) m (by omega), e1, show m ≠ 0 by omega, wid (((c + 1 : Nat) : Int) + 1) (by omega) (by omega)]; refine hK _ _ _ ?_; clear hK K) | (with_reducible first | refine rN ?_ | refine sQ ?_ | refine tY hC hP ?_ | refine aY hC hM hP ?_ | refine kQ ?_ | refine lQ ?_ | refine eQ ?_ | refine bQ ?_ | refine cTa ?_ | refine cFa ?_) | simp only [qS, Nat.reduceEqDiff, ↓reduceIte]))
     exact ⟨c + 1, by omega, by omega, by simp [Sub, lk]⟩
    ·have hE : sm c (fun i => at' la (i + 1) * at' o (n - 1 - i)) = sm n (fun i => at' la (i + 1) * at' o (n - 1 - i)) := by
      refine (Cw hc fun i h1 h2 => ?_).symm
      rw [Hs (l := la) (i := i + 1) (by omega), Int.zero_mul]
     have e2 : (m - sm c (fun i => at' la (i + 1) * at' o (n - 1 - i)) % m) * invL m (at' la 0) % m = iC m (invL m (at' la 0)) (at' la) n o := Ai6 hw.1 (by rw [hE])
     have hb1 : 0 ≤ (m - sm c (fun i => at' la (i + 1) * at' o (n - 1 - i)) % m) * invL m (at' la 0) := Int.mul_nonneg (by omega) hu.1
     have hb2 : (m - sm c (fun i => at' la (i + 1) * at' o (n - 1 - i)) % m) * invL m (at' la 0) ≤ 10000 * 10000 := Int.mul_le_mul (by omega) (by omega) hu.1 (by omega)
     have e3 : o ++ [iC m (invL m (at' la 0)) (at' la) n o] = iL m (invL m (at' la 0)) (at' la) (n + 1) := by rw [← ho]; rfl
     by_cases h1 : c + 1 ≤ n
     ·(repeat (first | ((with_reducible refine rC rfl fun K hK => ?_); simp only [go_sem, seval, ↓reduceIte, show (((c + 1 : Nat) : Int) ≤ (n : Int)) by omega, show ¬ (((c + 1 : Nat) : Int) < (la.length : Int)) by omega, wid (m - sm c (fun i => at' la (i + 1) * at' o (n - 1 - i)) % m) (by omega) (by omega), wid ((m - sm c (fun i => at' la (i + 1) * at' o (n - 1 - i)) % m) * invL m (at' la 0)) (by omega) (by omega), tm _ m hb1, e2, show m ≠ 0 by omega, hol, Cc, e3, show n + 1 ≤ 1099511627776 by omega, show (n + 1) * 8 ≤ 140737488355328 by omega, wid ((n : Int) + 1) (by omega) (by omega)]; refine hK _ _ _ ?_; clear hK K) | (with_reducible first | refine rN ?_ | refine sQ ?_ | refine tY hC hP ?_ | refine aY hC hM hP ?_ | refine kQ ?_ | refine lQ ?_ | refine eQ ?_ | refine bQ ?_ | refine cTa ?_ | refine cFa ?_) | simp only [qS, Nat.reduceEqDiff, ↓reduceIte]))
      exact ⟨(n + 1, v8 + 1), by simp only; omega, by simp only; omega, by simp [Sub, lk]⟩
     ·(repeat (first | ((with_reducible refine rC rfl fun K hK => ?_); simp only [go_sem, seval, ↓reduceIte, show ¬ (((c + 1 : Nat) : Int) ≤ (n : Int)) by omega, wid (m - sm c (fun i => at' la (i + 1) * at' o (n - 1 - i)) % m) (by omega) (by omega), wid ((m - sm c (fun i => at' la (i + 1) * at' o (n - 1 - i)) % m) * invL m (at' la 0)) (by omega) (by omega), tm _ m hb1, e2, show m ≠ 0 by omega, hol, Cc, e3, show n + 1 ≤ 1099511627776 by omega, show (n + 1) * 8 ≤ 140737488355328 by omega, wid ((n : Int) + 1) (by omega) (by omega)]; refine hK _ _ _ ?_; clear hK K) | (with_reducible first | refine rN ?_ | refine sQ ?_ | refine tY hC hP ?_ | refine aY hC hM hP ?_ | refine kQ ?_ | refine lQ ?_ | refine eQ ?_ | refine bQ ?_ | refine cTa ?_ | refine cFa ?_) | simp only [qS, Nat.reduceEqDiff, ↓reduceIte]))
      exact ⟨(n + 1, v8 + 1), by simp only; omega, by simp only; omega, by simp [Sub, lk]⟩
  ·(repeat (first | ((with_reducible refine rC rfl fun K hK => ?_); simp only [go_sem, seval, ↓reduceIte, show ¬ (n : Int) ≤ (d : Int) by omega]; refine hK _ _ _ ?_; clear hK K) | (with_reducible first | refine rN ?_ | refine sQ ?_ | refine tY hC hP ?_ | refine aY hC hM hP ?_ | refine kQ ?_ | refine lQ ?_ | refine eQ ?_ | refine bQ ?_ | refine cTa ?_ | refine cFa ?_) | simp only [qS, Nat.reduceEqDiff, ↓reduceIte]))
   refine rt1 ?_
   rw [show n = d + 1 by omega]; rfl
theorem Jh (m : Int) (la : List Int) (d : Nat) (hm : 1 < m) (hm2 : m ≤ 10000) (ha : ∀ x ∈ la, 0 ≤ x ∧ x < m) (hla : la.length = d + 1) (hd : d ≤ 999999) : AFn Tryz.prog 223 [.agg [.int .i64 m, .sl false 2 (intL la)]] (.agg [.int .i64 m, .sl true 2 (intL (invS m la d))]) := by
 refine fO Tryz.func223 Tryz.ntmps223 (by rw [Tryz.results223]) fun C hP hM hC => ?_
 have hu := Bv m (at' la 0) (by omega)
 have h0 : 0 < la.length := by omega
 have hz0 : 0 < (tab (d + 1) (fun _ => 0)).length := by rw [Ad]; omega
 have e1 : tab (d + 1) (fun j => if j = 0 then invL m (at' la 0) else 0) = tab (d + 1) (at' (iL m (invL m (at' la 0)) (at' la) 1)) := Bf fun j _ => by
  rw [Abm]
  by_cases e : j = 0
  ·subst e; rfl
  ·rw [if_neg e, Hs (by simp; omega)]
 (repeat (first | ((with_reducible refine rC rfl fun K hK => ?_); simp only [go_sem, seval, ↓reduceIte, Aa la 0 h0, show la.getD 0 0 = at' la 0 from rfl, Int.toNat_zero, Int.le_refl, show (0 : Int) < (la.length : Int) by omega, Ad, show (0 : Int) < ((d + 1 : Nat) : Int) by omega, Ae _ 0 hz0, List.take_zero, Nat.zero_mul, Az, Mn, e1]; (first | refine hK _ _ _ ?_ | refine ⟨_, At m la (by omega), hK _ _ _ ?_⟩ | refine ⟨_, C9 m ((la.length : Int) - 1) (d + 1) (by omega) (by omega), hK _ _ _ ?_⟩ | refine ⟨_, Fv m (at' la 0) (by omega) (by omega), hK _ _ _ ?_⟩); clear hK K) | (with_reducible first | refine rN ?_ | refine sQ ?_ | refine tY hC hP ?_ | refine aY hC hM hP ?_ | refine kQ ?_ | refine lQ ?_ | refine eQ ?_ | refine bQ ?_ | refine cTa ?_ | refine cFa ?_) | simp only [qS, Nat.reduceEqDiff, ↓reduceIte]))
 refine AWP.loop (fun n : Nat => [(5, ⟨0, .val (.int .i64 n)⟩), (3, ⟨2, .own (.box 29 (.agg [.int .i64 m, .sl true 2 (intL (tab (d + 1) (at' (iL m (invL m (at' la 0)) (at' la) n))))]))⟩), (4, ⟨0, .val (.int .i64 (invL m (at' la 0)))⟩), (1, ⟨1, .own (.box 29 (.agg [.int .i64 m, .sl false 2 (intL la)]))⟩), (2, ⟨1, .own (.box 29 (.agg [.int .i64 0, .nil]))⟩)]) (fun n => 0 < n ∧ n ≤ d + 1) (fun n => d + 1 - n) 1 ⟨by omega, by omega⟩ (fun i => rfl) ?_ (fun n hw => ?_)
 ·simp [Sub, lk]
 ·have hdg := At m la (by omega)
  rw [hla] at hdg
  by_cases hn : n ≤ d
  ·have hol : (tab (d + 1) (at' (iL m (invL m (at' la 0)) (at' la) n))).length = d + 1 := Ad _ _
   have hon : ∀ x ∈ tab (d + 1) (at' (iL m (invL m (at' la 0)) (at' la) n)), 0 ≤ x ∧ x < m := by
    intro x hx
    obtain ⟨i, _, rfl⟩ := Cb.1 hx
    exact Af (S3 _ _ (by omega) hu) (by omega) i
   have hT := Eh m la (tab (d + 1) (at' (iL m (invL m (at' la 0)) (at' la) n))) d (by omega) hm2 ha hon hla hol (by omega)
   have hlt : n < (timesL m la (tab (d + 1) (at' (iL m (invL m (at' la 0)) (at' la) n))) d).length := by rw [Bz]; omega
   have g1 : (timesL m la (tab (d + 1) (at' (iL m (invL m (at' la 0)) (at' la) n))) d).getD n 0 = sm n (fun i => at' la (i + 1) * at' (iL m (invL m (at' la 0)) (at' la) n) (n - 1 - i)) % m := by
    rw [timesL, Dd (by omega), Ai2 hw.1 hn]
   have hs := As (sm n (fun i => at' la (i + 1) * at' (iL m (invL m (at' la 0)) (at' la) n) (n - 1 - i))) m (by omega)
   have hsu := As (sm n (fun i => at' la (i + 1) * at' (iL m (invL m (at' la 0)) (at' la) n) (n - 1 - i)) % m * invL m (at' la 0)) m (by omega)
   have e2 := Ajr (m := m) (u := invL m (at' la 0)) (a := at' la) (o := iL m (invL m (at' la 0)) (at' la) n) hw.1 rfl
   have hlt2 : n < (tab (d + 1) (at' (iL m (invL m (at' la 0)) (at' la) n))).length := by rw [Ad]; omega
   have hset : (tab (d + 1) (at' (iL m (invL m (at' la 0)) (at' la) n))).set n (iC m (invL m (at' la 0)) (at' la) n (iL m (invL m (at' la 0)) (at' la) n)) = tab (d + 1) (at' (iL m (invL m (at' la 0)) (at' la) (n + 1))) := Dt (fun j _ => Ajj m (invL m (at' la 0)) (at' la) n d j (by omega))
   (repeat (first | ((with_reducible refine rC rfl fun K hK => ?_); simp only [go_sem, seval, ↓reduceIte, show (n : Int) ≤ ((d + 1 : Nat) : Int) - 1 by omega, Int.toNat_natCast, Int.natCast_nonneg, Bz, Ad, show (n : Int) < ((d + 1 : Nat) : Int) by omega, Nat.mul_one, Ae _ n hlt, Ab _ n (Nat.le_of_lt hlt), g1, Ae _ n hlt2, Ab _ n (Nat.le_of_lt hlt2), wid (0 - sm n (fun i => at' la (i + 1) * at' (iL m (invL m (at' la 0)) (at' la) n) (n - 1 - i)) % m * invL m (at' la 0) % m) (by omega) (by omega), e2, Az, hset, wid ((n : Int) + 1) (by omega) (by omega)]; (first | refine hK _ _ _ ?_ | refine ⟨_, hdg, hK _ _ _ ?_⟩ | refine ⟨_, hT, hK _ _ _ ?_⟩ | refine ⟨_, Et m (sm n (fun i => at' la (i + 1) * at' (iL m (invL m (at' la 0)) (at' la) n) (n - 1 - i)) % m) (invL m (at' la 0)) (by omega) (by omega) hs.1 hs.2 hu.1 hu.2, hK _ _ _ ?_⟩ | refine ⟨_, Co (0 - sm n (fun i => at' la (i + 1) * at' (iL m (invL m (at' la 0)) (at' la) n) (n - 1 - i)) % m * invL m (at' la 0) % m) m (by omega) (by omega), hK _ _ _ ?_⟩); clear hK K) | (with_reducible first | refine rN ?_ | refine sQ ?_ | refine tY hC hP ?_ | refine aY hC hM hP ?_ | refine kQ ?_ | refine lQ ?_ | refine eQ ?_ | refine bQ ?_ | refine cTa ?_ | refine cFa ?_) | simp only [qS, Nat.reduceEqDiff, ↓reduceIte]))
   exact ⟨n + 1, by omega, by omega, by simp [Sub, lk]⟩
  ·(repeat (first | ((with_reducible refine rC rfl fun K hK => ?_); simp only [go_sem, seval, ↓reduceIte, show ¬ (n : Int) ≤ ((d + 1 : Nat) : Int) - 1 by omega]; (first | refine hK _ _ _ ?_ | refine ⟨_, hdg, hK _ _ _ ?_⟩); clear hK K) | (with_reducible first | refine rN ?_ | refine sQ ?_ | refine tY hC hP ?_ | refine aY hC hM hP ?_ | refine kQ ?_ | refine lQ ?_ | refine eQ ?_ | refine bQ ?_ | refine cTa ?_ | refine cFa ?_) | simp only [qS, Nat.reduceEqDiff, ↓reduceIte]))
   refine rt1 ?_
   rw [show n = d + 1 by omega, Aiq]; rfl
end Go.Proofs.YtapdekacpecgiaaGreat

import Derived.Test.YtapdekacpecgiaaGreatLd
import Derived.Test.YtapdekacpecgiaaGreatLd
import Derived.Test.YtapdekacpecgiaaGreatKb
namespace Go.Proofs.YtapdekacpecgiaaGreat
open Go.RowKit
set_option linter.unusedSimpArgs false
set_option linter.unusedVariables false
set_option linter.unusedSectionVars false
set_option maxRecDepth 20000
set_option maxHeartbeats 1000000
def cmpL (m : Int) (a f : List Int) (d : Nat) : Nat → List Int
 | 0 => tab (d + 1) (fun _ => 0)
 | k + 1 => tab (d + 1) (fun j => (cv (at' (cmpL m a f d k)) (at' f) j % m + (if j = 0 then at' a (d - k) % m else 0)) % m)
theorem Ez (m : Int) (a f : List Int) (d k : Nat) : (cmpL m a f d k).length = d + 1 := by
 cases k <;> exact Ad _ _
theorem E9 {m : Int} (hm : 0 < m) (a f : List Int) (d k : Nat) : ∀ x ∈ cmpL m a f d k, 0 ≤ x ∧ x < m := by
 intro x hx
 cases k with
 | zero => obtain ⟨i, _, rfl⟩ := Cb.1 hx; omega
 | succ k => obtain ⟨i, _, rfl⟩ := Cb.1 hx; exact As _ m hm
theorem No {n i : Nat} {f : Nat → Int} : (tab n (fun j => if j < i then f j else 0)).set i (f i) = tab n (fun j => if j < i + 1 then f j else 0) := Dt fun j _ => by
 by_cases e : j = i
 ·subst e; simp
 ·rw [if_neg e]
  by_cases h : j < i
  ·rw [if_pos h, if_pos (by omega)]
  ·rw [if_neg h, if_neg (by omega)]
theorem Nt {n i : Nat} {f : Nat → Int} (h : n ≤ i) : tab n (fun j => if j < i then f j else 0) = tab n f := Bf fun j hj => by rw [if_pos (by omega)]
theorem K2 (m : Int) (la lb : List Int) (d : Nat) (hm : 0 < m) (hm2 : m ≤ 10000) (ha : ∀ x ∈ la, 0 ≤ x ∧ x < m) (hb : ∀ x ∈ lb, 0 ≤ x ∧ x < m) (hla : la.length = d + 1) (hlb : lb.length = d + 1) (hd : d ≤ 1000000) : AFn Tryz.prog 178 [.agg [.int .i64 m, .sl false 2 (intL la)], .agg [.int .i64 m, .sl false 2 (intL lb)]] (.agg [.int .i64 m, .sl true 2 (intL (tab (d + 1) (fun j => (at' la j + at' lb j) % m)))]) := by
 refine fO Tryz.func178 Tryz.ntmps178 (by rw [Tryz.results178]) fun C hP hM hC => ?_
 have hm0 : m ≠ 0 := by omega
 (repeat (first | ((with_reducible refine rC rfl fun K hK => ?_); simp only [go_sem, seval, ↓reduceIte]; (first | refine hK _ _ _ ?_ | refine ⟨_, At m la (by omega), hK _ _ _ ?_⟩ | refine ⟨_, C9 m ((la.length : Int) - 1) (d + 1) (by omega) (by omega), hK _ _ _ ?_⟩); clear hK K) | (with_reducible first | refine rN ?_ | refine sQ ?_ | refine tY hC hP ?_ | refine aY hC hM hP ?_ | refine kQ ?_ | refine lQ ?_ | refine eQ ?_ | refine bQ ?_ | refine cTa ?_ | refine cFa ?_) | simp only [qS, Nat.reduceEqDiff, ↓reduceIte]))
 refine AWP.loop (fun i : Nat => [(15, ⟨0, .val (.int .i64 i)⟩), (14, ⟨0, .val (.int .i64 (d + 1 : Nat))⟩), (5, ⟨2, .own (.box 29 (.agg [.int .i64 m, .sl true 2 (intL (tab (d + 1) (fun j => if j < i then (at' la j + at' lb j) % m else 0)))]))⟩), (2, ⟨1, .own (.box 29 (.agg [.int .i64 m, .sl false 2 (intL la)]))⟩), (3, ⟨1, .own (.box 29 (.agg [.int .i64 m, .sl false 2 (intL lb)]))⟩), (4, ⟨1, .own (.box 29 (.agg [.int .i64 0, .nil]))⟩)]) (fun i => i ≤ d + 1) (fun i => d + 1 - i) 0 (Nat.zero_le _) (fun i => rfl) ?_ (fun i hi => ?_)
 ·simp [Sub, lk, Ad]
 ·by_cases hlt : i < d + 1
  ·have hI : (i : Int) < ((d + 1 : Nat) : Int) := by omega
   have hx := Af ha hm i
   have hy := Af hb hm i
   have hlen : i < (tab (d + 1) (fun j => if j < i then (at' la j + at' lb j) % m else 0)).length := by rw [Ad]; exact hlt
   (repeat (first | ((with_reducible refine rC rfl fun K hK => ?_); simp only [go_sem, seval, ↓reduceIte, hI, hm0, hla, hlb, Aa la i (by omega), Aa lb i (by omega), show la.getD i 0 = at' la i from rfl, show lb.getD i 0 = at' lb i from rfl, Int.toNat_natCast, Int.natCast_nonneg, Ad, wid (at' la i + at' lb i) (by omega) (by omega), tm (at' la i + at' lb i) m (by omega), Ae _ _ hlen, Ab _ _ (Nat.le_of_lt hlen), Nat.mul_one, Az, No (f := fun j => (at' la j + at' lb j) % m), wid ((i : Int) + 1) (by omega) (by omega)]; refine hK _ _ _ ?_; clear hK K) | (with_reducible first | refine rN ?_ | refine sQ ?_ | refine tY hC hP ?_ | refine aY hC hM hP ?_ | refine kQ ?_ | refine lQ ?_ | refine eQ ?_ | refine bQ ?_ | refine cTa ?_ | refine cFa ?_) | simp only [qS, Nat.reduceEqDiff, ↓reduceIte]))
   exact ⟨i + 1, by omega, by omega, by simp [Sub, lk]⟩
  ·(repeat (first | ((with_reducible refine rC rfl fun K hK => ?_); simp only [go_sem, seval, ↓reduceIte, show ¬ (i : Int) < ((d + 1 : Nat) : Int) by omega]; refine hK _ _ _ ?_; clear hK K) | (with_reducible first | refine rN ?_ | refine sQ ?_ | refine tY hC hP ?_ | refine aY hC hM hP ?_ | refine kQ ?_ | refine lQ ?_ | refine eQ ?_ | refine bQ ?_ | refine cTa ?_ | refine cFa ?_) | simp only [qS, Nat.reduceEqDiff, ↓reduceIte]))
   refine rt1 ?_
   rw [Nt (f := fun j => (at' la j + at' lb j) % m) (by omega)]
theorem Je (m : Int) (la lf : List Int) (d : Nat) (hm : 1 < m) (hm2 : m ≤ 10000) (ha : ∀ x ∈ la, 0 ≤ x ∧ x < m) (hf : ∀ x ∈ lf, 0 ≤ x ∧ x < m) (hla : la.length = d + 1) (hlf : lf.length = d + 1) (hd : d ≤ 999999) : AFn Tryz.prog 96 [.agg [.int .i64 m, .sl false 2 (intL la)], .agg [.int .i64 m, .sl false 2 (intL lf)]] (.agg [.int .i64 m, .sl true 2 (intL (cmpL m la lf d (d + 1)))]) := by
 refine fO Tryz.func96 Tryz.ntmps96 (by rw [Tryz.results96]) fun C hP hM hC => ?_
 have h0 := Do m la 0 (by omega) (by omega) (by omega) (by omega)
 rw [hla, show tab (d + 1) (fun j => if j = 0 then (0 : Int) % m else 0) = cmpL m la lf d 0 from Bf fun j _ => by simp] at h0
 (repeat (first | ((with_reducible refine rC rfl fun K hK => ?_); simp only [go_sem, seval, ↓reduceIte, hla]; (first | refine hK _ _ _ ?_ | refine ⟨_, h0, hK _ _ _ ?_⟩ | refine ⟨_, At m la (by omega), hK _ _ _ ?_⟩); clear hK K) | (with_reducible first | refine rN ?_ | refine sQ ?_ | refine tY hC hP ?_ | refine aY hC hM hP ?_ | refine kQ ?_ | refine lQ ?_ | refine eQ ?_ | refine bQ ?_ | refine cTa ?_ | refine cFa ?_) | simp only [qS, Nat.reduceEqDiff, ↓reduceIte]))
 refine AWP.loop (fun w : Nat × Nat => [(6, ⟨0, .val (.int .i64 ((d : Int) - w.1))⟩), (5, ⟨w.2, .own (.box 29 (.agg [.int .i64 m, .sl true 2 (intL (cmpL m la lf d w.1))]))⟩), (2, ⟨1, .own (.box 29 (.agg [.int .i64 m, .sl false 2 (intL la)]))⟩), (3, ⟨1, .own (.box 29 (.agg [.int .i64 m, .sl false 2 (intL lf)]))⟩), (4, ⟨1, .own (.box 29 (.agg [.int .i64 0, .nil]))⟩)]) (fun w => w.1 ≤ d + 1) (fun w => d + 1 - w.1) (0, 2) (Nat.zero_le _) (fun i => rfl) ?_ (fun w hw => ?_)
 ·simp [Sub, lk, hla]
 ·obtain ⟨k, v⟩ := w
  simp only at hw ⊢
  by_cases hk : k ≤ d
  ·have hx := Af ha (show 0 < m by omega) (d - k)
   have hT := Eh m (cmpL m la lf d k) lf d (by omega) hm2 (E9 (by omega) _ _ _ _) hf (Ez _ _ _ _ _) hlf (by omega)
   have hZ := Do m la (at' la (d - k)) (by omega) (by omega) (by omega) (by omega)
   rw [hla] at hZ
   have hP2 := K2 m (timesL m (cmpL m la lf d k) lf d) (tab (d + 1) (fun j => if j = 0 then at' la (d - k) % m else 0)) d (by omega) hm2 (G8 _ _ _ _ (by omega)) (fun x hx => by obtain ⟨i, _, rfl⟩ := Cb.1 hx; split <;> first | exact As _ m (by omega) | omega) (Bz _ _ _ _) (Ad _ _) (by omega)
   rw [show tab (d + 1) (fun j => (at' (timesL m (cmpL m la lf d k) lf d) j + at' (tab (d + 1) (fun j => if j = 0 then at' la (d - k) % m else 0)) j) % m) = cmpL m la lf d (k + 1) from Bf fun j hj => by rw [timesL, A4 hj, A4 hj]] at hP2
   (repeat (first | ((with_reducible refine rC rfl fun K hK => ?_); simp only [go_sem, seval, ↓reduceIte, show (0 : Int) ≤ (d : Int) - k by omega, show ((d : Int) - k).toNat = d - k by omega, hla, show (d : Int) - k < ((d + 1 : Nat) : Int) by omega, Aa la (d - k) (by omega), show la.getD (d - k) 0 = at' la (d - k) from rfl, wid ((d : Int) - k - 1) (by omega) (by omega)]; (first | refine hK _ _ _ ?_ | refine ⟨_, hT, hK _ _ _ ?_⟩ | refine ⟨_, hZ, hK _ _ _ ?_⟩ | refine ⟨_, hP2, hK _ _ _ ?_⟩); clear hK K) | (with_reducible first | refine rN ?_ | refine sQ ?_ | refine tY hC hP ?_ | refine aY hC hM hP ?_ | refine kQ ?_ | refine lQ ?_ | refine eQ ?_ | refine bQ ?_ | refine cTa ?_ | refine cFa ?_) | simp only [qS, Nat.reduceEqDiff, ↓reduceIte]))
   exact ⟨(k + 1, v + 1), by simp only; omega, by simp only; omega, by simp [Sub, lk]; omega⟩
  ·(repeat (first | ((with_reducible refine rC rfl fun K hK => ?_); simp only [go_sem, seval, ↓reduceIte, show ¬ (0 : Int) ≤ (d : Int) - k by omega]; refine hK _ _ _ ?_; clear hK K) | (with_reducible first | refine rN ?_ | refine sQ ?_ | refine tY hC hP ?_ | refine aY hC hM hP ?_ | refine kQ ?_ | refine lQ ?_ | refine eQ ?_ | refine bQ ?_ | refine cTa ?_ | refine cFa ?_) | simp only [qS, Nat.reduceEqDiff, ↓reduceIte]))
   refine rt1 ?_
   rw [show k = d + 1 by omega]
def addL (m : Int) (a b : List Int) (d : Nat) : List Int := tab (d + 1) (fun j => (at' a j + at' b j) % m)
def scL (m c : Int) (a : List Int) (d : Nat) : List Int := tab (d + 1) (fun j => c * at' a j % m)
theorem Xx {m : Int} (hm : 0 < m) (c : Int) (a : List Int) (d : Nat) : (scL m c a d).length = d + 1 ∧ ∀ x ∈ scL m c a d, 0 ≤ x ∧ x < m :=
 ⟨Ad _ _, fun x hx => by obtain ⟨i, _, rfl⟩ := Cb.1 hx; exact As _ m hm⟩
theorem Fm (m c : Int) (l : List Int) (d : Nat) (hm : 0 < m) (hm2 : m ≤ 10000) (ha : ∀ x ∈ l, 0 ≤ x ∧ x < m) (hl : l.length = d + 1) (hd : d ≤ 1000000) (hc : 0 ≤ c) (hc2 : c < m) : AFn Tryz.prog 161 [.agg [.int .i64 m, .sl false 2 (intL l)], .int .i64 c] (.agg [.int .i64 m, .sl true 2 (intL (scL m c l d))]) := by
 refine fO Tryz.func161 Tryz.ntmps161 (by rw [Tryz.results161]) fun C hP hM hC => ?_
 have hmc := Co c m hm (by omega)
 rw [Int.emod_eq_of_lt hc hc2] at hmc
 (repeat (first | ((with_reducible refine rC rfl fun K hK => ?_); simp only [go_sem, seval, ↓reduceIte]; (first | refine hK _ _ _ ?_ | refine ⟨_, At m l (by omega), hK _ _ _ ?_⟩ | refine ⟨_, C9 m ((l.length : Int) - 1) (d + 1) (by omega) (by omega), hK _ _ _ ?_⟩); clear hK K) | (with_reducible first | refine rN ?_ | refine sQ ?_ | refine tY hC hP ?_ | refine aY hC hM hP ?_ | refine kQ ?_ | refine lQ ?_ | refine eQ ?_ | refine bQ ?_ | refine cTa ?_ | refine cFa ?_) | simp only [qS, Nat.reduceEqDiff, ↓reduceIte]))
 refine AWP.loop (fun i : Nat => [(16, ⟨0, .val (.int .i64 i)⟩), (15, ⟨0, .val (.int .i64 (d + 1 : Nat))⟩), (14, ⟨0, .val (.sl false 2 (intL l))⟩), (5, ⟨2, .own (.box 29 (.agg [.int .i64 m, .sl true 2 (intL (tab (d + 1) (fun j => if j < i then c * at' l j % m else 0)))]))⟩), (2, ⟨1, .own (.box 29 (.agg [.int .i64 m, .sl false 2 (intL l)]))⟩), (1, ⟨0, .val (.int .i64 c)⟩), (4, ⟨1, .own (.box 29 (.agg [.int .i64 0, .nil]))⟩)]) (fun i => i ≤ d + 1) (fun i => d + 1 - i) 0 (Nat.zero_le _) (fun i => rfl) ?_ (fun i hi => ?_)
 ·simp [Sub, lk, hl]
 ·by_cases hlt : i < d + 1
  ·have hx := Af ha hm i
   have hlen : i < (tab (d + 1) (fun j => if j < i then c * at' l j % m else 0)).length := by rw [Ad]; exact hlt
   (repeat (first | ((with_reducible refine rC rfl fun K hK => ?_); simp only [go_sem, seval, ↓reduceIte, show (i : Int) < ((d + 1 : Nat) : Int) by omega, hl, Aa l i (by omega), show l.getD i 0 = at' l i from rfl, Int.toNat_natCast, Int.natCast_nonneg, Ad, Ae _ _ hlen, Ab _ _ (Nat.le_of_lt hlen), Nat.mul_one, Az, No (f := fun j => c * at' l j % m), wid ((i : Int) + 1) (by omega) (by omega)]; (first | refine hK _ _ _ ?_ | refine ⟨_, hmc, hK _ _ _ ?_⟩ | refine ⟨_, Et m c (at' l i) hm (by omega) hc hc2 hx.1 hx.2, hK _ _ _ ?_⟩); clear hK K) | (with_reducible first | refine rN ?_ | refine sQ ?_ | refine tY hC hP ?_ | refine aY hC hM hP ?_ | refine kQ ?_ | refine lQ ?_ | refine eQ ?_ | refine bQ ?_ | refine cTa ?_ | refine cFa ?_) | simp only [qS, Nat.reduceEqDiff, ↓reduceIte]))
   exact ⟨i + 1, by omega, by omega, by simp [Sub, lk]⟩
  ·(repeat (first | ((with_reducible refine rC rfl fun K hK => ?_); simp only [go_sem, seval, ↓reduceIte, show ¬ (i : Int) < ((d + 1 : Nat) : Int) by omega]; refine hK _ _ _ ?_; clear hK K) | (with_reducible first | refine rN ?_ | refine sQ ?_ | refine tY hC hP ?_ | refine aY hC hM hP ?_ | refine kQ ?_ | refine lQ ?_ | refine eQ ?_ | refine bQ ?_ | refine cTa ?_ | refine cFa ?_) | simp only [qS, Nat.reduceEqDiff, ↓reduceIte]))
   refine rt1 ?_
   rw [Nt (f := fun j => c * at' l j % m) (by omega)]; rfl
theorem Rl (m : Int) (la lb : List Int) (d : Nat) (hm : 0 < m) (hm2 : m ≤ 10000) (ha : ∀ x ∈ la, 0 ≤ x ∧ x < m) (hb : ∀ x ∈ lb, 0 ≤ x ∧ x < m) (hla : la.length = d + 1) (hlb : lb.length = d + 1) (hd : d ≤ 1000000) : AFn Tryz.prog 180 [.int .i64 m, .sl false 2 (intL la), .sl false 2 (intL lb)] (.sl true 2 (intL (addL m la lb d))) := by
 refine fO Tryz.func180 Tryz.ntmps180 (by rw [Tryz.results180]) fun C hP hM hC => ?_
 (repeat (first | ((with_reducible refine rC rfl fun K hK => ?_); simp only [go_sem, seval, ↓reduceIte]; refine hK _ _ _ ?_; clear hK K) | (with_reducible first | refine rN ?_ | refine sQ ?_ | refine tY hC hP ?_ | refine aY hC hM hP ?_ | refine kQ ?_ | refine lQ ?_ | refine eQ ?_ | refine bQ ?_ | refine cTa ?_ | refine cFa ?_) | simp only [qS, Nat.reduceEqDiff, ↓reduceIte]))
 refine AWP.loop (fun w : Nat × Nat => [(8, ⟨0, .val (.int .i64 w.1)⟩), (7, ⟨w.2, .own (.sl true 2 (intL (tab w.1 (fun j => (at' la j + at' lb j) % m))))⟩), (0, ⟨0, .val (.int .i64 m)⟩), (1, ⟨0, .val (.sl false 2 (intL la))⟩), (2, ⟨0, .val (.sl false 2 (intL lb))⟩)]) (fun w => w.1 ≤ d + 1) (fun w => d + 1 - w.1) (0, 1) (Nat.zero_le _) (fun i => rfl) ?_ (fun w hw => ?_)
 ·simp [Sub, lk, Py, intL]
 ·obtain ⟨i, v⟩ := w
  simp only at hw ⊢
  by_cases hlt : i < d + 1
  ·have hx := Af ha hm i
   have hy := Af hb hm i
   have hs := Hp i (fun j => (at' la j + at' lb j) % m)
   (repeat (first | ((with_reducible refine rC rfl fun K hK => ?_); simp only [go_sem, seval, ↓reduceIte, hla, hlb, show (i : Int) < ((d + 1 : Nat) : Int) by omega, Aa la i (by omega), Aa lb i (by omega), show la.getD i 0 = at' la i from rfl, show lb.getD i 0 = at' lb i from rfl, Int.toNat_natCast, Int.natCast_nonneg, wid (at' la i + at' lb i) (by omega) (by omega), tm (at' la i + at' lb i) m (by omega), show m ≠ 0 by omega, Ad, Cc, hs, show i + 1 ≤ 1099511627776 by omega, show (i + 1) * 8 ≤ 140737488355328 by omega, wid ((i : Int) + 1) (by omega) (by omega)]; refine hK _ _ _ ?_; clear hK K) | (with_reducible first | refine rN ?_ | refine sQ ?_ | refine tY hC hP ?_ | refine aY hC hM hP ?_ | refine kQ ?_ | refine lQ ?_ | refine eQ ?_ | refine bQ ?_ | refine cTa ?_ | refine cFa ?_) | simp only [qS, Nat.reduceEqDiff, ↓reduceIte]))
   exact ⟨(i + 1, v + 1), by simp only; omega, by simp only; omega, by simp [Sub, lk]⟩
  ·(repeat (first | ((with_reducible refine rC rfl fun K hK => ?_); simp only [go_sem, seval, ↓reduceIte, hla, show ¬ (i : Int) < ((d + 1 : Nat) : Int) by omega]; refine hK _ _ _ ?_; clear hK K) | (with_reducible first | refine rN ?_ | refine sQ ?_ | refine tY hC hP ?_ | refine aY hC hM hP ?_ | refine kQ ?_ | refine lQ ?_ | refine eQ ?_ | refine bQ ?_ | refine cTa ?_ | refine cFa ?_) | simp only [qS, Nat.reduceEqDiff, ↓reduceIte]))
   refine rt1 ?_
   rw [show i = d + 1 by omega]; rfl
theorem Oq (m c : Int) (l : List Int) (d : Nat) (hm : 0 < m) (hm2 : m ≤ 10000) (ha : ∀ x ∈ l, 0 ≤ x ∧ x < m) (hl : l.length = d + 1) (hd : d ≤ 1000000) (hc : 0 ≤ c) (hc2 : c < m) : AFn Tryz.prog 181 [.int .i64 m, .int .i64 c, .sl false 2 (intL l)] (.sl true 2 (intL (scL m c l d))) := by
 refine fO Tryz.func181 Tryz.ntmps181 (by rw [Tryz.results181]) fun C hP hM hC => ?_
 (repeat (first | ((with_reducible refine rC rfl fun K hK => ?_); simp only [go_sem, seval, ↓reduceIte]; refine hK _ _ _ ?_; clear hK K) | (with_reducible first | refine rN ?_ | refine sQ ?_ | refine tY hC hP ?_ | refine aY hC hM hP ?_ | refine kQ ?_ | refine lQ ?_ | refine eQ ?_ | refine bQ ?_ | refine cTa ?_ | refine cFa ?_) | simp only [qS, Nat.reduceEqDiff, ↓reduceIte]))
 refine AWP.loop (fun w : Nat × Nat => [(8, ⟨0, .val (.int .i64 w.1)⟩), (7, ⟨w.2, .own (.sl true 2 (intL (tab w.1 (fun j => c * at' l j % m))))⟩), (0, ⟨0, .val (.int .i64 m)⟩), (1, ⟨0, .val (.int .i64 c)⟩), (2, ⟨0, .val (.sl false 2 (intL l))⟩)]) (fun w => w.1 ≤ d + 1) (fun w => d + 1 - w.1) (0, 1) (Nat.zero_le _) (fun i => rfl) ?_ (fun w hw => ?_)
 ·simp [Sub, lk, Py, intL]
 ·obtain ⟨i, v⟩ := w
  simp only at hw ⊢
  by_cases hlt : i < d + 1
  ·have hx := Af ha hm i
   have hxy := Dn hc hc2 hx.1 hx.2 hm2
   have hs := Hp i (fun j => c * at' l j % m)
   (repeat (first | ((with_reducible refine rC rfl fun K hK => ?_); simp only [go_sem, seval, ↓reduceIte, hl, show (i : Int) < ((d + 1 : Nat) : Int) by omega, Aa l i (by omega), show l.getD i 0 = at' l i from rfl, Int.toNat_natCast, Int.natCast_nonneg, wid (c * at' l i) (by omega) (by omega), tm (c * at' l i) m hxy.1, show m ≠ 0 by omega, Ad, Cc, hs, show i + 1 ≤ 1099511627776 by omega, show (i + 1) * 8 ≤ 140737488355328 by omega, wid ((i : Int) + 1) (by omega) (by omega)]; refine hK _ _ _ ?_; clear hK K) | (with_reducible first | refine rN ?_ | refine sQ ?_ | refine tY hC hP ?_ | refine aY hC hM hP ?_ | refine kQ ?_ | refine lQ ?_ | refine eQ ?_ | refine bQ ?_ | refine cTa ?_ | refine cFa ?_) | simp only [qS, Nat.reduceEqDiff, ↓reduceIte]))
   exact ⟨(i + 1, v + 1), by simp only; omega, by simp only; omega, by simp [Sub, lk]⟩
  ·(repeat (first | ((with_reducible refine rC rfl fun K hK => ?_); simp only [go_sem, seval, ↓reduceIte, hl, show ¬ (i : Int) < ((d + 1 : Nat) : Int) by omega]; refine hK _ _ _ ?_; clear hK K) | (with_reducible first | refine rN ?_ | refine sQ ?_ | refine tY hC hP ?_ | refine aY hC hM hP ?_ | refine kQ ?_ | refine lQ ?_ | refine eQ ?_ | refine bQ ?_ | refine cTa ?_ | refine cFa ?_) | simp only [qS, Nat.reduceEqDiff, ↓reduceIte]))
   refine rt1 ?_
   rw [show i = d + 1 by omega]; rfl
end Go.Proofs.YtapdekacpecgiaaGreat

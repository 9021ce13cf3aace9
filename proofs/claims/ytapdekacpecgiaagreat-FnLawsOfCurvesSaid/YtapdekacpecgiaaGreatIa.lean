import Derived.Test.YtapdekacpecgiaaGreatKg
import Derived.Test.YtapdekacpecgiaaGreatQb
import Derived.Test.YtapdekacpecgiaaGreatCu
import Derived.Test.YtapdekacpecgiaaGreatRn
import Derived.Test.YtapdekacpecgiaaGreatKe
import Derived.Test.YtapdekacpecgiaaGreatKf
import Derived.Test.YtapdekacpecgiaaGreatKc
namespace Go.Proofs.YtapdekacpecgiaaGreat
open Go.RowKit
set_option linter.unusedSimpArgs false
set_option linter.unusedVariables false
set_option linter.unusedSectionVars false
set_option maxRecDepth 20000
set_option maxHeartbeats 1000000
def sij (n : Nat) (t p q : Nat → Nat → Int) (i j u v : Nat) : Int := sm i (fun a => sm (n - a) (fun b => t a b * (p a u * q b v))) + sm j (fun b => t i b * (p i u * q b v))
theorem Ti (n : Nat) (t p q : Nat → Nat → Int) (u v : Nat) : sij n t p q 0 0 u v = 0 := rfl
theorem Sk (n : Nat) (t p q : Nat → Nat → Int) (i u v : Nat) : sij n t p q i (n - i) u v = sij n t p q (i + 1) 0 u v := by
 show _ = sm (i + 1) _ + 0
 rw [Int.add_zero]; rfl
theorem Ki (n : Nat) (t p q : Nat → Nat → Int) (i j u v : Nat) : sij n t p q i (j + 1) u v = sij n t p q i j u v + t i j * (p i u * q j v) := by
 show sm i _ + (sm j _ + _) = _
 rw [← Int.add_assoc]; rfl
def bthT (m : Int) (n : Nat) (t p q : Nat → Nat → Int) : List (List Int) := tab2 n (fun u v => sij n t p q n 0 u v % m)
theorem Xn {m : Int} (hm : 0 < m) (n : Nat) (t p q : Nat → Nat → Int) : Pl m n (bthT m n t p q) := Pl.tab2 hm fun _ _ _ => As _ m hm
def pwC (m : Int) (a : List Int) (d i u : Nat) : Int := at' (pwS m a d i) u
def hmB (m : Int) (n : Nat) (tf tg : Nat → Nat → Int) (a : List Int) : Bool := decide (aftL m n tf a a.length = bthT m n tg (pwC m a (n - 1)) (pwC m a (n - 1)))
theorem Xe (n : Nat) (f : Nat → Nat → Int) : tab2 n f = tab2 n (pc (tab2 n f)) := Av fun u v h => (Bn h).symm
theorem Td {m : Int} {n : Nat} {t : Nat → Nat → Int} {c : List Int} : ∀ k, aftL m n t c k = tab2 n (pc (aftL m n t c k))
 | 0 => by rw [aftL]; exact Xe n _
 | k + 1 => by rw [aftL]; exact Xe n _
theorem Aem {m : Int} {a : List Int} {d i u : Nat} (hu : u ≤ d) : pwC m a d (i + 1) u = cv (pwC m a d i) (at' a) u % m := by
 unfold pwC
 rw [pwS, timesL, A4 (by omega)]
theorem Xo {m : Int} {a : List Int} {d : Nat} (h0 : at' a 0 = 0) : ∀ i u, u < i → u ≤ d → pwC m a d i u = 0
 | 0, u, h, _ => by omega
 | i + 1, u, h, hu => by
  rw [Aem hu]
  have : cv (pwC m a d i) (at' a) u = 0 := by
   unfold cv
   refine A0 fun k hk => ?_
   by_cases e : k < i
   ·rw [Xo h0 i k e (by omega), Int.zero_mul]
   ·rw [show u - k = 0 by omega, h0, Int.mul_zero]
  rw [this, Int.zero_emod]
def upt (F G : Nat → Nat → Int) (i j u v : Nat) : Int := if u < i ∨ (u = i ∧ v < j) then F u v else G u v
theorem Qu (F G : Nat → Nat → Int) (u v : Nat) : upt F G 0 0 u v = G u v := if_neg (by omega)
theorem Aif (F G : Nat → Nat → Int) (i j : Nat) : upt F G i j i j = G i j := if_neg (by omega)
theorem Xk (F G : Nat → Nat → Int) (i j u v : Nat) : (if u = i ∧ v = j then F i j else upt F G i j u v) = upt F G i (j + 1) u v := by
 unfold upt
 by_cases h : u = i ∧ v = j
 ·rw [if_pos h, if_pos (by omega), h.1, h.2]
 ·rw [if_neg h]
  by_cases h2 : u < i ∨ (u = i ∧ v < j)
  ·rw [if_pos h2, if_pos (by omega)]
  ·rw [if_neg h2, if_neg (by omega)]
theorem W9 {F G : Nat → Nat → Int} {n i j u v : Nat} (h : n ≤ i + j) (huv : u + v < n) : upt F G i j u v = upt F G (i + 1) 0 u v := by
 unfold upt
 by_cases h2 : u < i ∨ (u = i ∧ v < j)
 ·rw [if_pos h2, if_pos (by omega)]
 ·rw [if_neg h2, if_neg (by omega)]
theorem W0 {F G : Nat → Nat → Int} {n u v : Nat} (huv : u + v < n) : upt F G n 0 u v = F u v := if_pos (by omega)
theorem Af1 (ll : List (List Int)) (h : 0 < ll.length) : ∃ x, x ∈ rowsO ll ∧ x.scalar = false := by
 cases ll with
 | nil => simp at h
 | cons x l => exact ⟨_, List.mem_cons_self .., rfl⟩
theorem K0 (m : Int) (la lb : List (List Int)) (n i j : Nat) (hm2 : m ≤ 10000) (ha : Pl m n la) (hb : Pl m n lb) (hij : i + j < n) : AFn Tryz.prog 211 [.int .i64 i, .int .i64 j, .fptr (.agg [.int .i64 m, .sl false 27 (rowsF la)]), .fptr (.agg [.int .i64 m, .sl false 27 (rowsF lb)])] (.int .i64 (pc la i j + pc lb i j)) := by
 refine fO Tryz.func211 Tryz.ntmps211 (by rw [Tryz.results211]) fun C hP hM hC => ?_
 have h1 := ha.num i j
 have h2 := hb.num i j
 have r1 := ha.row i (by omega)
 have r2 := hb.row i (by omega)
 have k1 : j < (la.getD i []).length := by omega
 have k2 : j < (lb.getD i []).length := by omega
 (repeat (first | ((with_reducible refine rC rfl fun K hK => ?_); simp only [go_sem, seval, ↓reduceIte, Aj la i (by rw [ha.len]; omega), Aj lb i (by rw [hb.len]; omega), Ac, ha.len, hb.len, Int.toNat_natCast, Int.natCast_nonneg, show (i : Int) < (n : Int) by omega, Aa _ j k1, Aa _ j k2, r1, r2, show ((j : Nat) : Int) < ((n - i : Nat) : Int) by omega, show (la.getD i []).getD j 0 = pc la i j from rfl, show (lb.getD i []).getD j 0 = pc lb i j from rfl, wid (pc la i j + pc lb i j) (by omega) (by omega)]; refine hK _ _ _ ?_; clear hK K) | (with_reducible first | refine rN ?_ | refine sQ ?_ | refine tY hC hP ?_ | refine aY hC hM hP ?_ | refine kQ ?_ | refine lQ ?_ | refine eQ ?_ | refine bQ ?_ | refine cTa ?_ | refine cFa ?_) | simp only [qS, Nat.reduceEqDiff, ↓reduceIte]))
 refine rt1 ?_
 rfl
set_option maxHeartbeats 4000000 in
theorem Kt (m : Int) (la lb : List (List Int)) (n : Nat) (hm : 0 < m) (hm2 : m ≤ 10000) (ha : Pl m n la) (hb : Pl m n lb) (hn : 1 ≤ n) (hn2 : n ≤ 1000) : AFn Tryz.prog 201 [.agg [.int .i64 m, .sl false 27 (rowsF la)], .fn 211 [.fptr (.agg [.int .i64 m, .sl false 27 (rowsF la)]), .fptr (.agg [.int .i64 m, .sl false 27 (rowsF lb)])]] (.agg [.int .i64 m, .sl true 27 (rowsO (tab2 n (fun u v => (pc la u v + pc lb u v) % m)))]) := by
 refine fO Tryz.func201 Tryz.ntmps201 (by rw [Tryz.results201]) fun C hP hM hC => ?_
 have hZ0 := C7 m (n - 1) (by omega)
 rw [show n - 1 + 1 = n by omega] at hZ0
 have e0 : tab2 n (fun _ _ => 0) = tab2 n (upt (fun u v => (pc la u v + pc lb u v) % m) (fun _ _ => 0) 0 0) := Av fun u v _ => by rw [Qu]
 rw [e0] at hZ0
 have hD := A5 m la (by rw [ha.len]; omega)
 rw [ha.len, show (n : Int) - 1 = ((n - 1 : Nat) : Int) by omega] at hD
 (repeat (first | ((with_reducible refine rC rfl fun K hK => ?_); simp only [go_sem, seval, ↓reduceIte, Ai, Am]; (first | refine hK _ _ _ ?_ | refine ⟨_, hD, hK _ _ _ ?_⟩ | refine ⟨_, hZ0, hK _ _ _ ?_⟩); clear hK K) | (with_reducible first | refine rN ?_ | refine sQ ?_ | refine tY hC hP ?_ | refine aY hC hM hP ?_ | refine kQ ?_ | refine lQ ?_ | refine eQ ?_ | refine bQ ?_ | refine cTa ?_ | refine cFa ?_) | simp only [qS, Nat.reduceEqDiff, ↓reduceIte]))
 refine AWP.loop (fun i : Nat => [(17, ⟨0, .val (.int .i64 i)⟩), (16, ⟨0, .val (.int .i64 n)⟩), (15, ⟨0, .val (.ref 5 2 [0, 1])⟩), (5, ⟨2, .own (.box 26 (.agg [.int .i64 m, .sl true 27 (rowsO (tab2 n (upt (fun u v => (pc la u v + pc lb u v) % m) (fun _ _ => 0) i 0)))]))⟩), (1, ⟨0, .val (.fn 211 [.fptr (.agg [.int .i64 m, .sl false 27 (rowsF la)]), .fptr (.agg [.int .i64 m, .sl false 27 (rowsF lb)])])⟩), (2, ⟨1, .own (.box 26 (.agg [.int .i64 m, .sl false 27 (rowsF la)]))⟩), (4, ⟨1, .own (.box 26 (.agg [.int .i64 0, .nil]))⟩)]) (fun i => i ≤ n) (fun i => n - i) 0 (Nat.zero_le _) (fun i => rfl) ?_ (fun i hi => ?_)
 ·simp [Sub, lk]
 ·by_cases hin : i < n
  ·have hi1 : i < (tab2 n (upt (fun u v => (pc la u v + pc lb u v) % m) (fun _ _ => 0) i 0)).length := by rw [Am]; exact hin
   (repeat (first | ((with_reducible refine rC rfl fun K hK => ?_); simp only [go_sem, seval, ↓reduceIte, show (i : Int) < (n : Int) by omega, Au _ _ hi1, An _ _ (Nat.le_of_lt hi1), Ai, Am, Bu hin, Ad, Nat.mul_one, Int.toNat_natCast, Int.natCast_nonneg]; refine hK _ _ _ ?_; clear hK K) | (with_reducible first | refine rN ?_ | refine sQ ?_ | refine tY hC hP ?_ | refine aY hC hM hP ?_ | refine kQ ?_ | refine lQ ?_ | refine eQ ?_ | refine bQ ?_ | refine cTa ?_ | refine cFa ?_) | simp only [qS, Nat.reduceEqDiff, ↓reduceIte]))
   refine AWP.loop (fun j : Nat => [(24, ⟨0, .val (.int .i64 j)⟩), (23, ⟨0, .val (.int .i64 (n - i : Nat))⟩), (7, ⟨0, .val (.ref 5 2 [0, 1, i])⟩), (6, ⟨0, .val (.int .i64 i)⟩), (17, ⟨0, .val (.int .i64 i)⟩), (16, ⟨0, .val (.int .i64 n)⟩), (15, ⟨0, .val (.ref 5 2 [0, 1])⟩), (5, ⟨2, .own (.box 26 (.agg [.int .i64 m, .sl true 27 (rowsO (tab2 n (upt (fun u v => (pc la u v + pc lb u v) % m) (fun _ _ => 0) i j)))]))⟩), (1, ⟨0, .val (.fn 211 [.fptr (.agg [.int .i64 m, .sl false 27 (rowsF la)]), .fptr (.agg [.int .i64 m, .sl false 27 (rowsF lb)])])⟩), (2, ⟨1, .own (.box 26 (.agg [.int .i64 m, .sl false 27 (rowsF la)]))⟩), (4, ⟨1, .own (.box 26 (.agg [.int .i64 0, .nil]))⟩)]) (fun j => i + j ≤ n) (fun j => n - j) 0 (by omega) (fun i => rfl) ?_ (fun j hj => ?_)
   ·simp [Sub, lk]
   ·by_cases hjn : i + j < n
    ·have hi2 : i < (tab2 n (upt (fun u v => (pc la u v + pc lb u v) % m) (fun _ _ => 0) i j)).length := by rw [Am]; exact hin
     have hc : j < (tab (n - i) (upt (fun u v => (pc la u v + pc lb u v) % m) (fun _ _ => 0) i j i)).length := by rw [Ad]; omega
     have hP1 := K0 m la lb n i j hm2 ha hb hjn
     have h1 := ha.num i j
     have h2 := hb.num i j
     have hMd := Co (pc la i j + pc lb i j) m hm (by omega)
     have hst : (tab2 n (upt (fun u v => (pc la u v + pc lb u v) % m) (fun _ _ => 0) i j)).set i ((tab (n - i) (upt (fun u v => (pc la u v + pc lb u v) % m) (fun _ _ => 0) i j i)).set j ((pc la i j + pc lb i j) % m)) = tab2 n (upt (fun u v => (pc la u v + pc lb u v) % m) (fun _ _ => 0) i (j + 1)) := D8 (fun a b _ => Xk _ _ i j a b)
     (repeat (first | ((with_reducible refine rC rfl fun K hK => ?_); simp only [go_sem, seval, ↓reduceIte, show (j : Int) < ((n - i : Nat) : Int) by omega, Au _ _ hi2, An _ _ (Nat.le_of_lt hi2), Ai, Am, Bu hin, Nat.mul_one, Ae _ _ hc, Ab _ _ (Nat.le_of_lt hc), Ad, Int.toNat_natCast, Int.natCast_nonneg, Bq _ _ _ _ hi2, hst, wid ((j : Int) + 1) (by omega) (by omega)]; (first | refine hK _ _ _ ?_ | refine ⟨_, hP1, hK _ _ _ ?_⟩ | refine ⟨_, hMd, hK _ _ _ ?_⟩); clear hK K) | (with_reducible first | refine rN ?_ | refine sQ ?_ | refine tY hC hP ?_ | refine aY hC hM hP ?_ | refine kQ ?_ | refine lQ ?_ | refine eQ ?_ | refine bQ ?_ | refine cTa ?_ | refine cFa ?_) | simp only [qS, Nat.reduceEqDiff, ↓reduceIte]))
     exact ⟨j + 1, by omega, by omega, by simp [Sub, lk]⟩
    ·have hE : tab2 n (upt (fun u v => (pc la u v + pc lb u v) % m) (fun _ _ => 0) i j) = tab2 n (upt (fun u v => (pc la u v + pc lb u v) % m) (fun _ _ => 0) (i + 1) 0) := Av fun u v huv => W9 (by omega) huv
     (repeat (first | ((with_reducible refine rC rfl fun K hK => ?_); simp only [go_sem, seval, ↓reduceIte, show ¬ (j : Int) < ((n - i : Nat) : Int) by omega, wid ((i : Int) + 1) (by omega) (by omega)]; refine hK _ _ _ ?_; clear hK K) | (with_reducible first | refine rN ?_ | refine sQ ?_ | refine tY hC hP ?_ | refine aY hC hM hP ?_ | refine kQ ?_ | refine lQ ?_ | refine eQ ?_ | refine bQ ?_ | refine cTa ?_ | refine cFa ?_) | simp only [qS, Nat.reduceEqDiff, ↓reduceIte]))
     exact ⟨i + 1, by omega, by omega, by simp only [hE]; simp [Sub, lk]⟩
  ·have hie : i = n := by omega
   subst hie
   (repeat (first | ((with_reducible refine rC rfl fun K hK => ?_); simp only [go_sem, seval, ↓reduceIte, show ¬ (i : Int) < (i : Int) by omega]; refine hK _ _ _ ?_; clear hK K) | (with_reducible first | refine rN ?_ | refine sQ ?_ | refine tY hC hP ?_ | refine aY hC hM hP ?_ | refine kQ ?_ | refine lQ ?_ | refine eQ ?_ | refine bQ ?_ | refine cTa ?_ | refine cFa ?_) | simp only [qS, Nat.reduceEqDiff, ↓reduceIte]))
   refine rt1 ?_
   rw [show tab2 i (upt (fun u v => (pc la u v + pc lb u v) % m) (fun _ _ => 0) i 0) = tab2 i (fun u v => (pc la u v + pc lb u v) % m) from Av fun u v huv => W0 huv]
theorem Eu (m : Int) (la lb : List (List Int)) (n : Nat) (hm : 0 < m) (hm2 : m ≤ 10000) (ha : Pl m n la) (hb : Pl m n lb) (hn : 1 ≤ n) (hn2 : n ≤ 1000) : AFn Tryz.prog 124 [.agg [.int .i64 m, .sl false 27 (rowsF la)], .agg [.int .i64 m, .sl false 27 (rowsF lb)]] (.agg [.int .i64 m, .sl true 27 (rowsO (tab2 n (fun u v => (pc la u v + pc lb u v) % m)))]) := by
 refine fO Tryz.func124 Tryz.ntmps124 (by rw [Tryz.results124]) fun C hP hM hC => ?_
 (repeat (first | ((with_reducible refine rC rfl fun K hK => ?_); simp only [go_sem, seval, ↓reduceIte]; (first | refine hK _ _ _ ?_ | refine ⟨_, Kt m la lb n hm hm2 ha hb hn hn2, hK _ _ _ ?_⟩); clear hK K) | (with_reducible first | refine rN ?_ | refine sQ ?_ | refine tY hC hP ?_ | refine aY hC hM hP ?_ | refine kQ ?_ | refine lQ ?_ | refine eQ ?_ | refine bQ ?_ | refine cTa ?_ | refine cFa ?_) | simp only [qS, Nat.reduceEqDiff, ↓reduceIte]))
 refine rt1 ?_
 rfl
set_option maxHeartbeats 1000000 in
theorem Hh (m : Int) (c : List Int) (ll : List (List Int)) (n : Nat) (hm : 0 < m) (hm2 : m ≤ 10000) (hl : Pl m n ll) (hc : ∀ x ∈ c, 0 ≤ x ∧ x < m) (hcl : c.length ≤ 1000) (hn : 1 ≤ n) (hn2 : n ≤ 1000) : AFn Tryz.prog 91 [.agg [.int .i64 m, .sl false 2 (intL c)], .agg [.int .i64 m, .sl false 27 (rowsF ll)]] (.agg [.int .i64 m, .sl true 27 (rowsO (aftL m n (pc ll) c c.length))]) := by
 refine fO Tryz.func91 Tryz.ntmps91 (by rw [Tryz.results91]) fun C hP hM hC => ?_
 have h0 := Di m 0 ll n hm hm2 hl.len hn hn2
 have e0 : numP m 0 n = aftL m n (pc ll) c 0 := Av fun u v _ => by simp
 rw [e0] at h0
 (repeat (first | ((with_reducible refine rC rfl fun K hK => ?_); simp only [go_sem, seval, ↓reduceIte]; (first | refine hK _ _ _ ?_ | refine ⟨_, h0, hK _ _ _ ?_⟩ | refine ⟨_, At m c (by omega), hK _ _ _ ?_⟩); clear hK K) | (with_reducible first | refine rN ?_ | refine sQ ?_ | refine tY hC hP ?_ | refine aY hC hM hP ?_ | refine kQ ?_ | refine lQ ?_ | refine eQ ?_ | refine bQ ?_ | refine cTa ?_ | refine cFa ?_) | simp only [qS, Nat.reduceEqDiff, ↓reduceIte]))
 refine AWP.loop (fun w : Nat × Nat => [(6, ⟨0, .val (.int .i64 ((c.length : Int) - 1 - (w.1 : Int)))⟩), (5, ⟨w.2, .own (.box 26 (.agg [.int .i64 m, .sl true 27 (rowsO (aftL m n (pc ll) c w.1))]))⟩), (2, ⟨1, .own (.box 29 (.agg [.int .i64 m, .sl false 2 (intL c)]))⟩), (3, ⟨1, .own (.box 26 (.agg [.int .i64 m, .sl false 27 (rowsF ll)]))⟩), (4, ⟨1, .own (.box 26 (.agg [.int .i64 0, .nil]))⟩)]) (fun w => w.1 ≤ c.length) (fun w => c.length - w.1) (0, 2) (Nat.zero_le _) (fun i => rfl) ?_ (fun w hw => ?_)
 ·simp [Sub, lk]
 ·obtain ⟨k, v⟩ := w
  simp only at hw ⊢
  by_cases hk : k < c.length
  ·have hT := Gr m (aftL m n (pc ll) c k) ll n hm hm2 (Ee hm n _ c k) hl hn hn2
   have hx := Af hc hm (c.length - 1 - k)
   have hN := Di m (at' c (c.length - 1 - k)) ll n hm hm2 hl.len hn hn2
   have hPs := Eu m (pmul m n (pc (aftL m n (pc ll) c k)) (pc ll)) (numP m (at' c (c.length - 1 - k)) n) n hm hm2 (Eq hm n _ _) (Xr hm _ n) hn hn2
   have hE : tab2 n (fun u v => (pc (pmul m n (pc (aftL m n (pc ll) c k)) (pc ll)) u v + pc (numP m (at' c (c.length - 1 - k)) n) u v) % m) = aftL m n (pc ll) c (k + 1) := by
    rw [aftL]
    refine Av fun u v huv => ?_
    rw [pmul, numP, Bn huv, Bn huv]
    by_cases h : u = 0 ∧ v = 0
    ·rw [if_pos h, if_pos h, h.1, h.2, Int.emod_eq_of_lt hx.1 hx.2]
    ·rw [if_neg h, if_neg h, Int.add_zero, Int.emod_emod]
   rw [hE] at hPs
   have hlt : c.length - 1 - k < c.length := by omega
   (repeat (first | ((with_reducible refine rC rfl fun K hK => ?_); simp only [go_sem, seval, ↓reduceIte, show (0 : Int) ≤ (c.length : Int) - 1 - (k : Int) by omega, show ((c.length : Int) - 1 - (k : Int)).toNat = c.length - 1 - k by omega, show (c.length : Int) - 1 - (k : Int) < (c.length : Int) by omega, Aa c _ hlt, show c.getD (c.length - 1 - k) 0 = at' c (c.length - 1 - k) from rfl, wid ((c.length : Int) - 1 - (k : Int) - 1) (by omega) (by omega)]; (first | refine hK _ _ _ ?_ | refine ⟨_, hT, hK _ _ _ ?_⟩ | refine ⟨_, hN, hK _ _ _ ?_⟩ | refine ⟨_, hPs, hK _ _ _ ?_⟩); clear hK K) | (with_reducible first | refine rN ?_ | refine sQ ?_ | refine tY hC hP ?_ | refine aY hC hM hP ?_ | refine kQ ?_ | refine lQ ?_ | refine eQ ?_ | refine bQ ?_ | refine cTa ?_ | refine cFa ?_) | simp only [qS, Nat.reduceEqDiff, ↓reduceIte]))
   exact ⟨(k + 1, v + 1), by simp only; omega, by simp only; omega, by simp [Sub, lk]; omega⟩
  ·(repeat (first | ((with_reducible refine rC rfl fun K hK => ?_); simp only [go_sem, seval, ↓reduceIte, show ¬ (0 : Int) ≤ (c.length : Int) - 1 - (k : Int) by omega]; refine hK _ _ _ ?_; clear hK K) | (with_reducible first | refine rN ?_ | refine sQ ?_ | refine tY hC hP ?_ | refine aY hC hM hP ?_ | refine kQ ?_ | refine lQ ?_ | refine eQ ?_ | refine bQ ?_ | refine cTa ?_ | refine cFa ?_) | simp only [qS, Nat.reduceEqDiff, ↓reduceIte]))
   refine rt1 ?_
   rw [show k = c.length by omega]
theorem K1 (la lb : List Int) (h : la.length = lb.length) (hl : la.length ≤ 1000000000) : AFn Tryz.prog 248 [.sl false 2 (intL la), .sl false 2 (intL lb)] (.bool (eqB la lb)) := by
 refine fO Tryz.func248 Tryz.ntmps248 (by rw [Tryz.results248]) fun C hP hM hC => ?_
 (repeat (first | ((with_reducible refine rC rfl fun K hK => ?_); simp only [go_sem, seval, ↓reduceIte]; (first | refine hK _ _ _ ?_ | refine ⟨_, Gu la lb h hl, hK _ _ _ ?_⟩); clear hK K) | (with_reducible first | refine rN ?_ | refine sQ ?_ | refine tY hC hP ?_ | refine aY hC hM hP ?_ | refine kQ ?_ | refine lQ ?_ | refine eQ ?_ | refine bQ ?_ | refine cTa ?_ | refine cFa ?_) | simp only [qS, Nat.reduceEqDiff, ↓reduceIte]))
 refine rt1 ?_
 rfl
theorem Aib {n : Nat} {f g : Nat → Nat → Int} {i : Nat} (hi : i < n) (h : tab (n - i) (f i) ≠ tab (n - i) (g i)) : tab2 n f ≠ tab2 n g := fun e => h (by rw [← Bu (f := f) hi, ← Bu (f := g) hi, e])
theorem Ahw {n : Nat} {f g : Nat → Nat → Int} (h : ∀ i, i < n → tab (n - i) (f i) = tab (n - i) (g i)) : tab2 n f = tab2 n g :=
 List.map_congr_left fun i hi => h i (List.mem_range.1 hi)
theorem Dv (n : Nat) (f g : Nat → Nat → Int) (hn : n ≤ 1000) : AFn Tryz.prog 247 [.sl false 27 (rowsF (tab2 n f)), .sl false 27 (rowsF (tab2 n g)), .fn 248 []] (.bool (decide (tab2 n f = tab2 n g))) := by
 refine fO Tryz.func247 Tryz.ntmps247 (by rw [Tryz.results247]) fun C hP hM hC => ?_
 (repeat (first | ((with_reducible refine rC rfl fun K hK => ?_); simp only [go_sem, seval, ↓reduceIte, Ac, Am, show ((n : Int) != (n : Int)) = false by simp]; refine hK _ _ _ ?_; clear hK K) | (with_reducible first | refine rN ?_ | refine sQ ?_ | refine tY hC hP ?_ | refine aY hC hM hP ?_ | refine kQ ?_ | refine lQ ?_ | refine eQ ?_ | refine bQ ?_ | refine cTa ?_ | refine cFa ?_) | simp only [qS, Nat.reduceEqDiff, ↓reduceIte]))
 refine AWP.loop (fun i : Nat => [(17, ⟨0, .val (.int .i64 i)⟩), (16, ⟨0, .val (.int .i64 n)⟩), (15, ⟨0, .val (.sl false 27 (rowsF (tab2 n f)))⟩), (0, ⟨0, .val (.sl false 27 (rowsF (tab2 n f)))⟩), (1, ⟨0, .val (.sl false 27 (rowsF (tab2 n g)))⟩), (2, ⟨0, .val (.fn 248 [])⟩)]) (fun i => i ≤ n ∧ ∀ j, j < i → tab (n - j) (f j) = tab (n - j) (g j)) (fun i => n - i) 0 ⟨Nat.zero_le _, fun j hj => by omega⟩ (fun i => rfl) ?_ (fun i hi => ?_)
 ·simp [Sub, lk]
 ·by_cases hin : i < n
  ·have hS := K1 (tab (n - i) (f i)) (tab (n - i) (g i)) (by rw [Ad, Ad]) (by rw [Ad]; omega)
   by_cases he : tab (n - i) (f i) = tab (n - i) (g i)
   ·rw [eqB, decide_eq_true he] at hS
    (repeat (first | ((with_reducible refine rC rfl fun K hK => ?_); simp only [go_sem, seval, ↓reduceIte, show (i : Int) < (n : Int) by omega, Aj (tab2 n f) i (by rw [Am]; exact hin), Aj (tab2 n g) i (by rw [Am]; exact hin), Bu hin, Ac, Am, Int.toNat_natCast, Int.natCast_nonneg, wid ((i : Int) + 1) (by omega) (by omega)]; (first | refine hK _ _ _ ?_ | refine ⟨_, hS, hK _ _ _ ?_⟩); clear hK K) | (with_reducible first | refine rN ?_ | refine sQ ?_ | refine tY hC hP ?_ | refine aY hC hM hP ?_ | refine kQ ?_ | refine lQ ?_ | refine eQ ?_ | refine bQ ?_ | refine cTa ?_ | refine cFa ?_) | simp only [qS, Nat.reduceEqDiff, ↓reduceIte]))
    refine ⟨i + 1, ⟨hin, fun j hj => ?_⟩, by omega, by simp [Sub, lk]⟩
    by_cases e : j = i
    ·rw [e]; exact he
    ·exact hi.2 j (by omega)
   ·rw [eqB, decide_eq_false he] at hS
    (repeat (first | ((with_reducible refine rC rfl fun K hK => ?_); simp only [go_sem, seval, ↓reduceIte, show (i : Int) < (n : Int) by omega, Aj (tab2 n f) i (by rw [Am]; exact hin), Aj (tab2 n g) i (by rw [Am]; exact hin), Bu hin, Ac, Am, Int.toNat_natCast, Int.natCast_nonneg]; (first | refine hK _ _ _ ?_ | refine ⟨_, hS, hK _ _ _ ?_⟩); clear hK K) | (with_reducible first | refine rN ?_ | refine sQ ?_ | refine tY hC hP ?_ | refine aY hC hM hP ?_ | refine kQ ?_ | refine lQ ?_ | refine eQ ?_ | refine bQ ?_ | refine cTa ?_ | refine cFa ?_) | simp only [qS, Nat.reduceEqDiff, ↓reduceIte]))
    refine rt1 ?_
    rw [decide_eq_false (Aib hin he)]
  ·(repeat (first | ((with_reducible refine rC rfl fun K hK => ?_); simp only [go_sem, seval, ↓reduceIte, show ¬ (i : Int) < (n : Int) by omega]; refine hK _ _ _ ?_; clear hK K) | (with_reducible first | refine rN ?_ | refine sQ ?_ | refine tY hC hP ?_ | refine aY hC hM hP ?_ | refine kQ ?_ | refine lQ ?_ | refine eQ ?_ | refine bQ ?_ | refine cTa ?_ | refine cFa ?_) | simp only [qS, Nat.reduceEqDiff, ↓reduceIte]))
   refine rt1 ?_
   rw [decide_eq_true (Ahw fun j hj => hi.2 j (by omega))]
theorem My (m : Int) (n : Nat) (f g : Nat → Nat → Int) (hn : n ≤ 1000) : AFn Tryz.prog 209 [.agg [.int .i64 m, .sl false 27 (rowsF (tab2 n f))], .agg [.int .i64 m, .sl false 27 (rowsF (tab2 n g))]] (.bool (decide (tab2 n f = tab2 n g))) := by
 refine fO Tryz.func209 Tryz.ntmps209 (by rw [Tryz.results209]) fun C hP hM hC => ?_
 (repeat (first | ((with_reducible refine rC rfl fun K hK => ?_); simp only [go_sem, seval, ↓reduceIte, show (m == m) = true by simp]; (first | refine hK _ _ _ ?_ | refine ⟨_, Dv n f g hn, hK _ _ _ ?_⟩); clear hK K) | (with_reducible first | refine rN ?_ | refine sQ ?_ | refine tY hC hP ?_ | refine aY hC hM hP ?_ | refine kQ ?_ | refine lQ ?_ | refine eQ ?_ | refine bQ ?_ | refine cTa ?_ | refine cFa ?_) | simp only [qS, Nat.reduceEqDiff, ↓reduceIte]))
 refine rt1 ?_
 rfl
set_option maxHeartbeats 4000000 in
theorem I2 (m : Int) (ll : List (List Int)) (a b : List Int) (n : Nat) (hm : 0 < m) (hm2 : m ≤ 10000) (hl : Pl m n ll) (ha : ∀ x ∈ a, 0 ≤ x ∧ x < m) (hal : a.length = n) (hb : ∀ x ∈ b, 0 ≤ x ∧ x < m) (hbl : b.length = n) (hn : 1 ≤ n) (hn2 : n ≤ 1000) : AFn Tryz.prog (8000000 + 174) [.int .i64 0, .agg [.int .i64 m, .sl true 27 (rowsO ll)], .agg [.int .i64 m, .sl false 2 (intL a)], .agg [.int .i64 m, .sl false 2 (intL b)]] (.tup [.tup [], .agg [.int .i64 m, .sl true 27 (rowsO (tab2 n (fun u v => (pc ll u v + at' a u * at' b v % m) % m)))]]) := by
 have hm0 : m ≠ 0 := by omega
 refine Ago.2 (AFx.ofBox' (d := 3) ttOk md Tryz.func174 Tryz.ntmps174 (by rw [Tryz.results174]) (by rfl) (by rfl) (by decide) (by simp) (by decide) (by rfl) (by rfl) (by rfl) (by kernel_rfl) (by kernel_rfl) (by rw [Ai, Ai, Am, hl.len]) (by simp only [T.noF, Id, Bool.and_self]) rfl mixed (fun C hP hM hC => ?_))
 obtain ⟨t, ht⟩ : ∃ t, t = pc ll := ⟨_, rfl⟩
 have e0 : ll = tab2 n (upt (fun u v => (t u v + at' a u * at' b v % m) % m) t 0 0) := by
  rw [show tab2 n (upt (fun u v => (t u v + at' a u * at' b v % m) % m) t 0 0) = tab2 n t from Av fun u v _ => Qu _ _ _ _, ht]
  exact hl.eq
 have hnum : ∀ i j, 0 ≤ t i j ∧ t i j < m := by rw [ht]; exact hl.num
 rw [← ht]
 generalize (pc ll) = t9 at *
 rw [e0]
 (repeat (first | ((with_reducible refine rC rfl fun K hK => ?_); simp only [go_sem, seval, ↓reduceIte, Ai, Am]; refine hK _ _ _ ?_; clear hK K) | (with_reducible first | refine rN ?_ | refine sQ ?_ | refine tY hC hP ?_ | refine aY hC hM hP ?_ | refine kQ ?_ | refine lQ ?_ | refine eQ ?_ | refine bQ ?_ | refine cTa ?_ | refine cFa ?_) | simp only [qS, Nat.reduceEqDiff, ↓reduceIte]))
 refine AWP.loop (fun i : Nat => [(12, ⟨0, .val (.int .i64 i)⟩), (11, ⟨0, .val (.int .i64 n)⟩), (10, ⟨0, .val (.ref 3 0 [0, 1])⟩), (3, ⟨0, .own (.box 26 (.agg [.int .i64 m, .sl true 27 (rowsO (tab2 n (upt (fun u v => (t u v + at' a u * at' b v % m) % m) t i 0)))]))⟩), (4, ⟨1, .own (.box 29 (.agg [.int .i64 m, .sl false 2 (intL a)]))⟩), (5, ⟨1, .own (.box 29 (.agg [.int .i64 m, .sl false 2 (intL b)]))⟩)]) (fun i => i ≤ n) (fun i => n - i) 0 (Nat.zero_le _) (fun i => rfl) ?_ (fun i hi => ?_)
 ·simp [Sub, lk]
 ·by_cases hin : i < n
  ·have hi1 : i < (tab2 n (upt (fun u v => (t u v + at' a u * at' b v % m) % m) t i 0)).length := by rw [Am]; exact hin
   (repeat (first | ((with_reducible refine rC rfl fun K hK => ?_); simp only [go_sem, seval, ↓reduceIte, show (i : Int) < (n : Int) by omega, Au _ _ hi1, An _ _ (Nat.le_of_lt hi1), Ai, Am, Bu hin, Ad, Nat.mul_one, Int.toNat_natCast, Int.natCast_nonneg]; refine hK _ _ _ ?_; clear hK K) | (with_reducible first | refine rN ?_ | refine sQ ?_ | refine tY hC hP ?_ | refine aY hC hM hP ?_ | refine kQ ?_ | refine lQ ?_ | refine eQ ?_ | refine bQ ?_ | refine cTa ?_ | refine cFa ?_) | simp only [qS, Nat.reduceEqDiff, ↓reduceIte]))
   refine AWP.loop (fun j : Nat => [(19, ⟨0, .val (.int .i64 j)⟩), (18, ⟨0, .val (.int .i64 (n - i : Nat))⟩), (7, ⟨0, .val (.ref 3 0 [0, 1, i])⟩), (6, ⟨0, .val (.int .i64 i)⟩), (12, ⟨0, .val (.int .i64 i)⟩), (11, ⟨0, .val (.int .i64 n)⟩), (10, ⟨0, .val (.ref 3 0 [0, 1])⟩), (3, ⟨0, .own (.box 26 (.agg [.int .i64 m, .sl true 27 (rowsO (tab2 n (upt (fun u v => (t u v + at' a u * at' b v % m) % m) t i j)))]))⟩), (4, ⟨1, .own (.box 29 (.agg [.int .i64 m, .sl false 2 (intL a)]))⟩), (5, ⟨1, .own (.box 29 (.agg [.int .i64 m, .sl false 2 (intL b)]))⟩)]) (fun j => i + j ≤ n) (fun j => n - j) 0 (by omega) (fun i => rfl) ?_ (fun j hj => ?_)
   ·simp [Sub, lk]
   ·by_cases hjn : i + j < n
    ·have hi2 : i < (tab2 n (upt (fun u v => (t u v + at' a u * at' b v % m) % m) t i j)).length := by rw [Am]; exact hin
     have hc : j < (tab (n - i) (upt (fun u v => (t u v + at' a u * at' b v % m) % m) t i j i)).length := by rw [Ad]; omega
     have g1 : (tab (n - i) (upt (fun u v => (t u v + at' a u * at' b v % m) % m) t i j i)).getD j 0 = t i j := by rw [Dd (by omega), Aif]
     have h1 := hnum i j
     have h2 := Af ha hm i
     have h3 := Af hb hm j
     have hMl := Et m (at' a i) (at' b j) hm (by omega) h2.1 h2.2 h3.1 h3.2
     have h4 := As (at' a i * at' b j) m hm
     have hst : (tab2 n (upt (fun u v => (t u v + at' a u * at' b v % m) % m) t i j)).set i ((tab (n - i) (upt (fun u v => (t u v + at' a u * at' b v % m) % m) t i j i)).set j ((t i j + at' a i * at' b j % m) % m)) = tab2 n (upt (fun u v => (t u v + at' a u * at' b v % m) % m) t i (j + 1)) := D8 (fun x y _ => Xk _ _ i j x y)
     (repeat (first | ((with_reducible refine rC rfl fun K hK => ?_); simp only [go_sem, seval, ↓reduceIte, show (j : Int) < ((n - i : Nat) : Int) by omega, Au _ _ hi2, An _ _ (Nat.le_of_lt hi2), Ai, Am, Bu hin, Nat.mul_one, Ae _ _ hc, Ab _ _ (Nat.le_of_lt hc), Ad, g1, Int.toNat_natCast, Int.natCast_nonneg, hal, hbl, show (i : Int) < (n : Int) by omega, show (j : Int) < (n : Int) by omega, Aa a i (by omega), Aa b j (by omega), show a.getD i 0 = at' a i from rfl, show b.getD j 0 = at' b j from rfl, wid (t i j + at' a i * at' b j % m) (by omega) (by omega), tm (t i j + at' a i * at' b j % m) m (by omega), hm0, Bq _ _ _ _ hi2, hst, wid ((j : Int) + 1) (by omega) (by omega)]; (first | refine hK _ _ _ ?_ | refine ⟨_, hMl, hK _ _ _ ?_⟩); clear hK K) | (with_reducible first | refine rN ?_ | refine sQ ?_ | refine tY hC hP ?_ | refine aY hC hM hP ?_ | refine kQ ?_ | refine lQ ?_ | refine eQ ?_ | refine bQ ?_ | refine cTa ?_ | refine cFa ?_) | simp only [qS, Nat.reduceEqDiff, ↓reduceIte]))
     exact ⟨j + 1, by omega, by omega, by simp [Sub, lk]⟩
    ·have hE : tab2 n (upt (fun u v => (t u v + at' a u * at' b v % m) % m) t i j) = tab2 n (upt (fun u v => (t u v + at' a u * at' b v % m) % m) t (i + 1) 0) := Av fun u v huv => W9 (by omega) huv
     (repeat (first | ((with_reducible refine rC rfl fun K hK => ?_); simp only [go_sem, seval, ↓reduceIte, show ¬ (j : Int) < ((n - i : Nat) : Int) by omega, wid ((i : Int) + 1) (by omega) (by omega)]; refine hK _ _ _ ?_; clear hK K) | (with_reducible first | refine rN ?_ | refine sQ ?_ | refine tY hC hP ?_ | refine aY hC hM hP ?_ | refine kQ ?_ | refine lQ ?_ | refine eQ ?_ | refine bQ ?_ | refine cTa ?_ | refine cFa ?_) | simp only [qS, Nat.reduceEqDiff, ↓reduceIte]))
     exact ⟨i + 1, by omega, by omega, by simp only [hE]; simp [Sub, lk]⟩
  ·have hie : i = n := by omega
   subst hie
   (repeat (first | ((with_reducible refine rC rfl fun K hK => ?_); simp only [go_sem, seval, ↓reduceIte, show ¬ (i : Int) < (i : Int) by omega]; refine hK _ _ _ ?_; clear hK K) | (with_reducible first | refine rN ?_ | refine sQ ?_ | refine tY hC hP ?_ | refine aY hC hM hP ?_ | refine kQ ?_ | refine lQ ?_ | refine eQ ?_ | refine bQ ?_ | refine cTa ?_ | refine cFa ?_) | simp only [qS, Nat.reduceEqDiff, ↓reduceIte]))
   refine Ab3 ?_
   rw [show tab2 i (fun u v => (t u v + at' a u * at' b v % m) % m) = tab2 i (upt (fun u v => (t u v + at' a u * at' b v % m) % m) t i 0) from Av fun u v huv => by rw [W0 huv]]
   rfl
set_option maxHeartbeats 4000000 in
theorem Mv (m : Int) (ll : List (List Int)) (a b : List Int) (n : Nat) (hm : 1 < m) (hm2 : m ≤ 10000) (hl : Pl m n ll) (ha : ∀ x ∈ a, 0 ≤ x ∧ x < m) (hal : a.length = n) (hb : ∀ x ∈ b, 0 ≤ x ∧ x < m) (hbl : b.length = n) (hn : 1 ≤ n) (hn2 : n ≤ 1000) : AFn Tryz.prog 72 [.agg [.int .i64 m, .sl false 27 (rowsF ll)], .agg [.int .i64 m, .sl false 2 (intL a)], .agg [.int .i64 m, .sl false 2 (intL b)]] (.agg [.int .i64 m, .sl true 27 (rowsO (bthT m n (pc ll) (pwC m a (n - 1)) (pwC m b (n - 1))))]) := by
 refine fO Tryz.func72 Tryz.ntmps72 (by rw [Tryz.results72]) fun C hP hM hC => ?_
 have h0 := Di m 0 ll n (by omega) hm2 hl.len hn hn2
 have e0 : numP m 0 n = tab2 n (fun u v => sij n (pc ll) (pwC m a (n - 1)) (pwC m b (n - 1)) 0 0 u v % m) := Av fun u v _ => by rw [Ti, Int.zero_emod]; split <;> simp
 rw [e0] at h0
 have hpa := Ft m a (n - 1) hm hm2 ha (by omega) (by omega)
 have hpb := Ft m b (n - 1) hm hm2 hb (by omega) (by omega)
 rw [show n - 1 + 1 = n by omega] at hpa hpb
 (repeat (first | ((with_reducible refine rC rfl fun K hK => ?_); simp only [go_sem, seval, ↓reduceIte, Ac, hl.len]; (first | refine hK _ _ _ ?_ | refine ⟨_, h0, hK _ _ _ ?_⟩ | refine ⟨_, hpa, hK _ _ _ ?_⟩ | refine ⟨_, hpb, hK _ _ _ ?_⟩); clear hK K) | (with_reducible first | refine rN ?_ | refine sQ ?_ | refine tY hC hP ?_ | refine aY hC hM hP ?_ | refine kQ ?_ | refine lQ ?_ | refine eQ ?_ | refine bQ ?_ | refine cTa ?_ | refine cFa ?_) | simp only [qS, Nat.reduceEqDiff, ↓reduceIte]))
 refine AWP.loop (fun w : Nat × Nat => [(23, ⟨0, .val (.int .i64 w.1)⟩), (22, ⟨0, .val (.int .i64 n)⟩), (21, ⟨0, .val (.sl false 27 (rowsF ll))⟩), (7, ⟨w.2, .own (.box 26 (.agg [.int .i64 m, .sl true 27 (rowsO (tab2 n (fun u v => sij n (pc ll) (pwC m a (n - 1)) (pwC m b (n - 1)) w.1 0 u v % m)))]))⟩), (8, ⟨1, .own (.sl true 29 (serO m (pwSL m a (n - 1) n)))⟩), (9, ⟨1, .own (.sl true 29 (serO m (pwSL m b (n - 1) n)))⟩), (3, ⟨1, .own (.box 26 (.agg [.int .i64 m, .sl false 27 (rowsF ll)]))⟩), (6, ⟨1, .own (.box 26 (.agg [.int .i64 0, .nil]))⟩)]) (fun w => w.1 ≤ n) (fun w => n - w.1) (0, 2) (Nat.zero_le _) (fun i => rfl) ?_ (fun w hw => ?_)
 ·simp [Sub, lk]
 ·obtain ⟨i, v⟩ := w
  simp only at hw ⊢
  by_cases hin : i < n
  ·have hrow := hl.row i hin
   (repeat (first | ((with_reducible refine rC rfl fun K hK => ?_); simp only [go_sem, seval, ↓reduceIte, show (i : Int) < (n : Int) by omega, Aj ll i (by rw [hl.len]; exact hin), Ac, hl.len, Int.toNat_natCast, Int.natCast_nonneg, hrow]; refine hK _ _ _ ?_; clear hK K) | (with_reducible first | refine rN ?_ | refine sQ ?_ | refine tY hC hP ?_ | refine aY hC hM hP ?_ | refine kQ ?_ | refine lQ ?_ | refine eQ ?_ | refine bQ ?_ | refine cTa ?_ | refine cFa ?_) | simp only [qS, Nat.reduceEqDiff, ↓reduceIte]))
   refine AWP.loop (fun w : Nat × Nat => [(30, ⟨0, .val (.int .i64 w.1)⟩), (29, ⟨0, .val (.int .i64 (n - i : Nat))⟩), (28, ⟨0, .val (.sl false 2 (intL (ll.getD i [])))⟩), (10, ⟨0, .val (.int .i64 i)⟩), (23, ⟨0, .val (.int .i64 i)⟩), (22, ⟨0, .val (.int .i64 n)⟩), (21, ⟨0, .val (.sl false 27 (rowsF ll))⟩), (7, ⟨w.2, .own (.box 26 (.agg [.int .i64 m, .sl true 27 (rowsO (tab2 n (fun u v => sij n (pc ll) (pwC m a (n - 1)) (pwC m b (n - 1)) i w.1 u v % m)))]))⟩), (8, ⟨1, .own (.sl true 29 (serO m (pwSL m a (n - 1) n)))⟩), (9, ⟨1, .own (.sl true 29 (serO m (pwSL m b (n - 1) n)))⟩), (3, ⟨1, .own (.box 26 (.agg [.int .i64 m, .sl false 27 (rowsF ll)]))⟩), (6, ⟨1, .own (.box 26 (.agg [.int .i64 0, .nil]))⟩)]) (fun w => i + w.1 ≤ n) (fun w => n - w.1) (0, v) (by simp only; omega) (fun i => rfl) ?_ (fun w hw => ?_)
   ·simp [Sub, lk]
   ·obtain ⟨j, v⟩ := w
    simp only at hw ⊢
    by_cases hjn : i + j < n
    ·have hj1 : j < (ll.getD i []).length := by omega
     have hx := hl.num i j
     by_cases h00 : pc ll i j = 0
     ·have hE : tab2 n (fun u v => sij n (pc ll) (pwC m a (n - 1)) (pwC m b (n - 1)) i (j + 1) u v % m) = tab2 n (fun u v => sij n (pc ll) (pwC m a (n - 1)) (pwC m b (n - 1)) i j u v % m) := Av fun u v _ => by rw [Ki, h00, Int.zero_mul, Int.add_zero]
      (repeat (first | ((with_reducible refine rC rfl fun K hK => ?_); simp only [go_sem, seval, ↓reduceIte, show (j : Int) < ((n - i : Nat) : Int) by omega, Int.toNat_natCast, Int.natCast_nonneg, Aa _ j hj1, hrow, show (ll.getD i []).getD j 0 = pc ll i j from rfl, h00, show ((0 : Int) != 0) = false from rfl, wid ((j : Int) + 1) (by omega) (by omega)]; refine hK _ _ _ ?_; clear hK K) | (with_reducible first | refine rN ?_ | refine sQ ?_ | refine tY hC hP ?_ | refine aY hC hM hP ?_ | refine kQ ?_ | refine lQ ?_ | refine eQ ?_ | refine bQ ?_ | refine cTa ?_ | refine cFa ?_) | simp only [qS, Nat.reduceEqDiff, ↓reduceIte]))
      exact ⟨(j + 1, v), by simp only; omega, by simp only; omega, by simp only [hE]; simp [Sub, lk]⟩
     ·have hii : i < (pwSL m a (n - 1) n).length := by rw [Cd]; exact hin
      have hjj : j < (pwSL m b (n - 1) n).length := by rw [Cd]; omega
      have hp := Fd hm a (n - 1) i
      have hq := Fd hm b (n - 1) j
      have hS := Fm m (pc ll i j) (pwS m a (n - 1) i) (n - 1) (by omega) hm2 hp.2 (by omega) (by omega) hx.1 hx.2
      have hs2 := Xx (show 0 < m by omega) (pc ll i j) (pwS m a (n - 1) i) (n - 1)
      have hT2 : Pl m n (tab2 n (fun u v => sij n (pc ll) (pwC m a (n - 1)) (pwC m b (n - 1)) i j u v % m)) := Pl.tab2 (by omega) fun _ _ _ => As _ m (by omega)
      have hO := I2 m (tab2 n (fun u v => sij n (pc ll) (pwC m a (n - 1)) (pwC m b (n - 1)) i j u v % m)) (scL m (pc ll i j) (pwS m a (n - 1) i) (n - 1)) (pwS m b (n - 1) j) n (by omega) hm2 hT2 hs2.2 (by omega) hq.2 (by omega) hn hn2
      have hE : tab2 n (fun u v => (pc (tab2 n (fun u v => sij n (pc ll) (pwC m a (n - 1)) (pwC m b (n - 1)) i j u v % m)) u v + at' (scL m (pc ll i j) (pwS m a (n - 1) i) (n - 1)) u * at' (pwS m b (n - 1) j) v % m) % m) = tab2 n (fun u v => sij n (pc ll) (pwC m a (n - 1)) (pwC m b (n - 1)) i (j + 1) u v % m) := Av fun u v huv => by
       rw [Bn huv, Ki, scL, A4 (by omega), Int.add_emod_emod, Int.emod_add_emod]
       show (_ + _ * pwC m b (n - 1) j v) % m = _
       rw [show at' (pwS m a (n - 1) i) u = pwC m a (n - 1) i u from rfl, ← Int.mul_assoc, Int.add_emod, Pa, ← Int.add_emod]
      rw [hE] at hO
      (repeat (first | ((with_reducible refine rC rfl fun K hK => ?_); simp only [go_sem, seval, ↓reduceIte, show (j : Int) < ((n - i : Nat) : Int) by omega, Int.toNat_natCast, Int.natCast_nonneg, Aa _ j hj1, hrow, show (ll.getD i []).getD j 0 = pc ll i j from rfl, show (pc ll i j != 0) = true by rw [bne_iff_ne]; exact h00, Ga, Cd, show (i : Int) < (n : Int) by omega, show (j : Int) < (n : Int) by omega, Qg _ _ _ hii, Qg _ _ _ hjj, Jw _ _ _ (Nat.le_of_lt hii), Jw _ _ _ (Nat.le_of_lt hjj), Fe (show i < n by omega), Fe (show j < n by omega), wid ((j : Int) + 1) (by omega) (by omega)]; (first | refine hK _ _ _ ?_ | refine ⟨_, hS, hK _ _ _ ?_⟩ | refine ⟨_, hO, hK _ _ _ ?_⟩); clear hK K) | (with_reducible first | refine rN ?_ | refine sQ ?_ | refine tY hC hP ?_ | refine aY hC hM hP ?_ | refine kQ ?_ | refine lQ ?_ | refine eQ ?_ | refine bQ ?_ | refine cTa ?_ | refine cFa ?_) | simp only [qS, Nat.reduceEqDiff, ↓reduceIte]))
      have hns := Af1 (tab2 n (fun u v => sij n (pc ll) (pwC m a (n - 1)) (pwC m b (n - 1)) i (j + 1) u v % m)) (by rw [Am]; omega)
      exact ⟨(j + 1, v + 1), by simp only; omega, by simp only; omega, by simp [Sub, lk]; exact hns⟩
    ·have hE : tab2 n (fun u v => sij n (pc ll) (pwC m a (n - 1)) (pwC m b (n - 1)) i j u v % m) = tab2 n (fun u v => sij n (pc ll) (pwC m a (n - 1)) (pwC m b (n - 1)) (i + 1) 0 u v % m) := Av fun u v _ => by rw [show j = n - i by omega, Sk]
     (repeat (first | ((with_reducible refine rC rfl fun K hK => ?_); simp only [go_sem, seval, ↓reduceIte, show ¬ (j : Int) < ((n - i : Nat) : Int) by omega, wid ((i : Int) + 1) (by omega) (by omega)]; refine hK _ _ _ ?_; clear hK K) | (with_reducible first | refine rN ?_ | refine sQ ?_ | refine tY hC hP ?_ | refine aY hC hM hP ?_ | refine kQ ?_ | refine lQ ?_ | refine eQ ?_ | refine bQ ?_ | refine cTa ?_ | refine cFa ?_) | simp only [qS, Nat.reduceEqDiff, ↓reduceIte]))
     exact ⟨(i + 1, v), by simp only; omega, by simp only; omega, by simp only [hE]; simp [Sub, lk]⟩
  ·have hie : i = n := by omega
   subst hie
   (repeat (first | ((with_reducible refine rC rfl fun K hK => ?_); simp only [go_sem, seval, ↓reduceIte, show ¬ (i : Int) < (i : Int) by omega]; refine hK _ _ _ ?_; clear hK K) | (with_reducible first | refine rN ?_ | refine sQ ?_ | refine tY hC hP ?_ | refine aY hC hM hP ?_ | refine kQ ?_ | refine lQ ?_ | refine eQ ?_ | refine bQ ?_ | refine cTa ?_ | refine cFa ?_) | simp only [qS, Nat.reduceEqDiff, ↓reduceIte]))
   refine rt1 ?_
   rfl
def sijL (n : Nat) (t p q : Nat → Nat → Int) (m : Int) (i j k l u v : Nat) : Int := if (i ≤ u ∧ u < k ∧ j ≤ v) ∨ (u = k ∧ j ≤ v ∧ v < l) then sij n t p q i (j + 1) u v % m else sij n t p q i j u v % m
theorem Aaw (n : Nat) (t p q : Nat → Nat → Int) (m : Int) (i j u v : Nat) : sijL n t p q m i j i j u v = sij n t p q i j u v % m := if_neg (by omega)
theorem Ah3 (n : Nat) (t p q : Nat → Nat → Int) (m : Int) (i j k l : Nat) : sijL n t p q m i j k l k l = sij n t p q i j k l % m := if_neg (by omega)
theorem Aeu (n : Nat) (t p q : Nat → Nat → Int) (m : Int) {i j k l : Nat} (hk : i ≤ k) (hl : j ≤ l) (u v : Nat) : (if u = k ∧ v = l then sij n t p q i (j + 1) k l % m else sijL n t p q m i j k l u v) = sijL n t p q m i j k (l + 1) u v := by
 unfold sijL
 by_cases h : u = k ∧ v = l
 ·rw [if_pos h, if_pos (by omega), h.1, h.2]
 ·rw [if_neg h]
  by_cases h2 : (i ≤ u ∧ u < k ∧ j ≤ v) ∨ (u = k ∧ j ≤ v ∧ v < l)
  ·rw [if_pos h2, if_pos (by omega)]
  ·rw [if_neg h2, if_neg (by omega)]
theorem Aek {n : Nat} {t p q : Nat → Nat → Int} {m : Int} {i j k l u v : Nat} (hk : i ≤ k) (h : n ≤ k + l) (huv : u + v < n) : sijL n t p q m i j k l u v = sijL n t p q m i j (k + 1) j u v := by
 unfold sijL
 by_cases h2 : (i ≤ u ∧ u < k ∧ j ≤ v) ∨ (u = k ∧ j ≤ v ∧ v < l)
 ·rw [if_pos h2, if_pos (by omega)]
 ·rw [if_neg h2, if_neg (by omega)]
theorem Aej {n : Nat} {t p q : Nat → Nat → Int} {m : Int} {i j k u v : Nat} (h : n ≤ k ∨ t i j = 0) (hp : ∀ a b, b < a → b < n → p a b = 0) (hq : ∀ a b, b < a → b < n → q a b = 0) (huv : u + v < n) : sijL n t p q m i j k j u v = sij n t p q i (j + 1) u v % m := by
 unfold sijL
 split
 ·rfl
 ·rename_i h2
  rw [Ki]
  rcases h with h | h
  ·have : p i u * q j v = 0 := by
    by_cases h3 : u < i
    ·rw [hp i u h3 (by omega), Int.zero_mul]
    ·rw [hq j v (by omega) (by omega), Int.mul_zero]
   rw [this, Int.mul_zero, Int.add_zero]
  ·rw [h, Int.zero_mul, Int.add_zero]
set_option maxHeartbeats 4000000 in
theorem Qi (m : Int) (ll : List (List Int)) (a b : List Int) (n : Nat) (hm : 1 < m) (hm2 : m ≤ 10000) (hl : Pl m n ll) (ha : ∀ x ∈ a, 0 ≤ x ∧ x < m) (hal : a.length = n) (hb : ∀ x ∈ b, 0 ≤ x ∧ x < m) (hbl : b.length = n) (ha0 : at' a 0 = 0) (hb0 : at' b 0 = 0) (hn : 1 ≤ n) (hn2 : n ≤ 1000) : AFn Tryz.prog 75 [.int .i64 m, .sl false 27 (rowsF ll), .sl false 2 (intL a), .sl false 2 (intL b)] (.sl true 27 (rowsO (bthT m n (pc ll) (pwC m a (n - 1)) (pwC m b (n - 1))))) := by
 refine fO Tryz.func75 Tryz.ntmps75 (by rw [Tryz.results75]) fun C hP hM hC => ?_
 have hm0 : m ≠ 0 := by omega
 have hZ0 := B2 (n - 1) (by omega)
 rw [show n - 1 + 1 = n by omega] at hZ0
 have e0 : tab2 n (fun _ _ => 0) = tab2 n (fun u v => sij n (pc ll) (pwC m a (n - 1)) (pwC m b (n - 1)) 0 0 u v % m) := Av fun u v _ => by rw [Ti, Int.zero_emod]
 rw [e0] at hZ0
 have hpa := Hu m a (n - 1) hm hm2 ha (by omega) (by omega)
 have hpb := Hu m b (n - 1) hm hm2 hb (by omega) (by omega)
 rw [show n - 1 + 1 = n by omega] at hpa hpb
 have hlo : ∀ (c : List Int), at' c 0 = 0 → ∀ x y, y < x → y < n → pwC m c (n - 1) x y = 0 := fun c hc x y h1 h2 => Xo hc x y h1 (by omega)
 (repeat (first | ((with_reducible refine rC rfl fun K hK => ?_); simp only [go_sem, seval, ↓reduceIte, Ac, hl.len, show IntKind.i64.wrap ((n : Int) - 1) = ((n - 1 : Nat) : Int) by rw [wid _ (by omega) (by omega)]; omega]; (first | refine hK _ _ _ ?_ | refine ⟨_, hpa, hK _ _ _ ?_⟩ | refine ⟨_, hpb, hK _ _ _ ?_⟩ | refine ⟨_, hZ0, hK _ _ _ ?_⟩); clear hK K) | (with_reducible first | refine rN ?_ | refine sQ ?_ | refine tY hC hP ?_ | refine aY hC hM hP ?_ | refine kQ ?_ | refine lQ ?_ | refine eQ ?_ | refine bQ ?_ | refine cTa ?_ | refine cFa ?_) | simp only [qS, Nat.reduceEqDiff, ↓reduceIte]))
 refine AWP.loop (fun i : Nat => [(13, ⟨0, .val (.int .i64 i)⟩), (9, ⟨0, .val (.int .i64 n)⟩), (10, ⟨1, .own (.sl true 27 (rowsO (pwSL m a (n - 1) n)))⟩), (11, ⟨1, .own (.sl true 27 (rowsO (pwSL m b (n - 1) n)))⟩), (12, ⟨1, .own (.sl true 27 (rowsO (tab2 n (fun u v => sij n (pc ll) (pwC m a (n - 1)) (pwC m b (n - 1)) i 0 u v % m))))⟩), (0, ⟨0, .val (.int .i64 m)⟩), (1, ⟨0, .val (.sl false 27 (rowsF ll))⟩)]) (fun i => i ≤ n) (fun i => n - i) 0 (Nat.zero_le _) (fun i => rfl) ?_ (fun i hi => ?_)
 ·simp [Sub, lk]
 ·by_cases hin : i < n
  ·have hrow := hl.row i hin
   (repeat (first | ((with_reducible refine rC rfl fun K hK => ?_); simp only [go_sem, seval, ↓reduceIte, show (i : Int) < (n : Int) by omega]; refine hK _ _ _ ?_; clear hK K) | (with_reducible first | refine rN ?_ | refine sQ ?_ | refine tY hC hP ?_ | refine aY hC hM hP ?_ | refine kQ ?_ | refine lQ ?_ | refine eQ ?_ | refine bQ ?_ | refine cTa ?_ | refine cFa ?_) | simp only [qS, Nat.reduceEqDiff, ↓reduceIte]))
   refine AWP.loop (fun j : Nat => [(14, ⟨0, .val (.int .i64 j)⟩), (13, ⟨0, .val (.int .i64 i)⟩), (9, ⟨0, .val (.int .i64 n)⟩), (10, ⟨1, .own (.sl true 27 (rowsO (pwSL m a (n - 1) n)))⟩), (11, ⟨1, .own (.sl true 27 (rowsO (pwSL m b (n - 1) n)))⟩), (12, ⟨1, .own (.sl true 27 (rowsO (tab2 n (fun u v => sij n (pc ll) (pwC m a (n - 1)) (pwC m b (n - 1)) i j u v % m))))⟩), (0, ⟨0, .val (.int .i64 m)⟩), (1, ⟨0, .val (.sl false 27 (rowsF ll))⟩)]) (fun j => i + j ≤ n) (fun j => n - j) 0 (by omega) (fun i => rfl) ?_ (fun j hj => ?_)
   ·simp [Sub, lk]
   ·have w1 := widK (i + j) (by omega)
    by_cases hjn : i + j < n
    ·have hj1 : j < (ll.getD i []).length := by omega
     have hx := hl.num i j
     have e1 : tab2 n (fun u v => sij n (pc ll) (pwC m a (n - 1)) (pwC m b (n - 1)) i j u v % m) = tab2 n (fun u v => sijL n (pc ll) (pwC m a (n - 1)) (pwC m b (n - 1)) m i j i j u v) := Av fun u v _ => (Aaw _ _ _ _ _ _ _ _ _).symm
     (repeat (first | ((with_reducible refine rC rfl fun K hK => ?_); simp only [go_sem, seval, ↓reduceIte, ← Int.natCast_add, w1, show ((i + j : Nat) : Int) < (n : Int) by omega]; refine hK _ _ _ ?_; clear hK K) | (with_reducible first | refine rN ?_ | refine sQ ?_ | refine tY hC hP ?_ | refine aY hC hM hP ?_ | refine kQ ?_ | refine lQ ?_ | refine eQ ?_ | refine bQ ?_ | refine cTa ?_ | refine cFa ?_) | simp only [qS, Nat.reduceEqDiff, ↓reduceIte]))
     refine AWP.loop (fun k : Nat => [(15, ⟨0, .val (.int .i64 k)⟩), (14, ⟨0, .val (.int .i64 j)⟩), (13, ⟨0, .val (.int .i64 i)⟩), (9, ⟨0, .val (.int .i64 n)⟩), (10, ⟨1, .own (.sl true 27 (rowsO (pwSL m a (n - 1) n)))⟩), (11, ⟨1, .own (.sl true 27 (rowsO (pwSL m b (n - 1) n)))⟩), (12, ⟨1, .own (.sl true 27 (rowsO (tab2 n (fun u v => sijL n (pc ll) (pwC m a (n - 1)) (pwC m b (n - 1)) m i j k j u v))))⟩), (0, ⟨0, .val (.int .i64 m)⟩), (1, ⟨0, .val (.sl false 27 (rowsF ll))⟩)]) (fun k => i ≤ k ∧ k ≤ n) (fun k => n - k) i ⟨Nat.le_refl _, by omega⟩ (fun i => rfl) ?_ (fun k hk => ?_)
     ·simp [Sub, lk, ← e1]
     ·by_cases hgo : k < n ∧ pc ll i j ≠ 0
      ·have hkl : k < (tab2 n (fun u v => sijL n (pc ll) (pwC m a (n - 1)) (pwC m b (n - 1)) m i j k j u v)).length := by rw [Am]; omega
       (repeat (first | ((with_reducible refine rC rfl fun K hK => ?_); simp only [go_sem, seval, ↓reduceIte, show (k : Int) < (n : Int) by omega, Aj ll i (by rw [hl.len]; exact hin), Ac, hl.len, Int.toNat_natCast, Int.natCast_nonneg, show (i : Int) < (n : Int) by omega, Aa _ j hj1, hrow, show ((j : Nat) : Int) < ((n - i : Nat) : Int) by omega, show (ll.getD i []).getD j 0 = pc ll i j from rfl, show (pc ll i j != 0) = true by rw [bne_iff_ne]; exact hgo.2, Au _ _ hkl, An _ _ (Nat.le_of_lt hkl), Ai, Am, Nat.mul_one]; refine hK _ _ _ ?_; clear hK K) | (with_reducible first | refine rN ?_ | refine sQ ?_ | refine tY hC hP ?_ | refine aY hC hM hP ?_ | refine kQ ?_ | refine lQ ?_ | refine eQ ?_ | refine bQ ?_ | refine cTa ?_ | refine cFa ?_) | simp only [qS, Nat.reduceEqDiff, ↓reduceIte]))
       refine AWP.loop (fun l : Nat => [(17, ⟨0, .val (.int .i64 l)⟩), (16, ⟨0, .val (.ref 12 1 [k])⟩), (15, ⟨0, .val (.int .i64 k)⟩), (14, ⟨0, .val (.int .i64 j)⟩), (13, ⟨0, .val (.int .i64 i)⟩), (9, ⟨0, .val (.int .i64 n)⟩), (10, ⟨1, .own (.sl true 27 (rowsO (pwSL m a (n - 1) n)))⟩), (11, ⟨1, .own (.sl true 27 (rowsO (pwSL m b (n - 1) n)))⟩), (12, ⟨1, .own (.sl true 27 (rowsO (tab2 n (fun u v => sijL n (pc ll) (pwC m a (n - 1)) (pwC m b (n - 1)) m i j k l u v))))⟩), (0, ⟨0, .val (.int .i64 m)⟩), (1, ⟨0, .val (.sl false 27 (rowsF ll))⟩)]) (fun l => j ≤ l ∧ (l ≤ n - k ∨ l = j)) (fun l => n - l) j ⟨Nat.le_refl _, .inr rfl⟩ (fun i => rfl) ?_ (fun l hl2 => ?_)
       ·simp [Sub, lk]
       ·have w2 := widK (k + l) (by omega)
        by_cases hln : k + l < n
        ·have hkl2 : k < (tab2 n (fun u v => sijL n (pc ll) (pwC m a (n - 1)) (pwC m b (n - 1)) m i j k l u v)).length := by rw [Am]; omega
         have hc : l < (tab (n - k) (sijL n (pc ll) (pwC m a (n - 1)) (pwC m b (n - 1)) m i j k l k)).length := by rw [Ad]; omega
         have g1 : (tab (n - k) (sijL n (pc ll) (pwC m a (n - 1)) (pwC m b (n - 1)) m i j k l k)).getD l 0 = sij n (pc ll) (pwC m a (n - 1)) (pwC m b (n - 1)) i j k l % m := by rw [Dd (by omega), Ah3]
         have hp := Fd hm a (n - 1) i
         have hq := Fd hm b (n - 1) j
         have hii : i < (pwSL m a (n - 1) n).length := by rw [Cd]; exact hin
         have hjj : j < (pwSL m b (n - 1) n).length := by rw [Cd]; omega
         have f1 : 0 ≤ pwC m a (n - 1) i k ∧ pwC m a (n - 1) i k < m := Af hp.2 (by omega) k
         have f2 : 0 ≤ pwC m b (n - 1) j l ∧ pwC m b (n - 1) j l < m := Af hq.2 (by omega) l
         have b1 := Dn hx.1 hx.2 f1.1 f1.2 hm2
         have e3 := As (pc ll i j * pwC m a (n - 1) i k) m (by omega)
         have b2 := Dn e3.1 e3.2 f2.1 f2.2 hm2
         have e4 := As (sij n (pc ll) (pwC m a (n - 1)) (pwC m b (n - 1)) i j k l) m (by omega)
         have g3 : (sij n (pc ll) (pwC m a (n - 1)) (pwC m b (n - 1)) i j k l % m + pc ll i j * pwC m a (n - 1) i k % m * pwC m b (n - 1) j l) % m = sij n (pc ll) (pwC m a (n - 1)) (pwC m b (n - 1)) i (j + 1) k l % m := by
          rw [Ki, Int.emod_add_emod, ← Int.mul_assoc, Int.add_emod, Pa, ← Int.add_emod]
         have hst : (tab2 n (fun u v => sijL n (pc ll) (pwC m a (n - 1)) (pwC m b (n - 1)) m i j k l u v)).set k ((tab (n - k) (sijL n (pc ll) (pwC m a (n - 1)) (pwC m b (n - 1)) m i j k l k)).set l (sij n (pc ll) (pwC m a (n - 1)) (pwC m b (n - 1)) i (j + 1) k l % m)) = tab2 n (fun u v => sijL n (pc ll) (pwC m a (n - 1)) (pwC m b (n - 1)) m i j k (l + 1) u v) := D8 (fun x y _ => Aeu _ _ _ _ _ hk.1 hl2.1 x y)
         (repeat (first | ((with_reducible refine rC rfl fun K hK => ?_); simp only [go_sem, seval, ↓reduceIte, ← Int.natCast_add, w2, show ((k + l : Nat) : Int) < (n : Int) by omega, Au _ _ hkl2, An _ _ (Nat.le_of_lt hkl2), Ai, Am, Bu (show k < n by omega), Nat.mul_one, Ae _ _ hc, Ab _ _ (Nat.le_of_lt hc), Ad, g1, show (l : Int) < ((n - k : Nat) : Int) by omega, Aj ll i (by rw [hl.len]; exact hin), Ac, hl.len, Int.toNat_natCast, Int.natCast_nonneg, show (i : Int) < (n : Int) by omega, show (j : Int) < (n : Int) by omega, Aa _ j hj1, hrow, show ((j : Nat) : Int) < ((n - i : Nat) : Int) by omega, show (ll.getD i []).getD j 0 = pc ll i j from rfl, Au _ _ hii, An _ _ (Nat.le_of_lt hii), Au _ _ hjj, An _ _ (Nat.le_of_lt hjj), Cd, Fe (show i < n by omega), Fe (show j < n by omega), Ae (pwS m a (n - 1) i) k (by omega), Ae (pwS m b (n - 1) j) l (by omega), Ab (pwS m a (n - 1) i) k (by omega), Ab (pwS m b (n - 1) j) l (by omega), hp.1, hq.1, show (k : Int) < ((n - 1 + 1 : Nat) : Int) by omega, show (l : Int) < ((n - 1 + 1 : Nat) : Int) by omega, show (pwS m a (n - 1) i).getD k 0 = pwC m a (n - 1) i k from rfl, show (pwS m b (n - 1) j).getD l 0 = pwC m b (n - 1) j l from rfl, wid (pc ll i j * pwC m a (n - 1) i k) (by omega) (by omega), tm (pc ll i j * pwC m a (n - 1) i k) m (by omega), wid (pc ll i j * pwC m a (n - 1) i k % m * pwC m b (n - 1) j l) (by omega) (by omega), wid (sij n (pc ll) (pwC m a (n - 1)) (pwC m b (n - 1)) i j k l % m + pc ll i j * pwC m a (n - 1) i k % m * pwC m b (n - 1) j l) (by omega) (by omega), tm (sij n (pc ll) (pwC m a (n - 1)) (pwC m b (n - 1)) i j k l % m + pc ll i j * pwC m a (n - 1) i k % m * pwC m b (n - 1) j l) m (by omega), g3, hm0, Bq _ _ _ _ hkl2, hst, wid ((l : Int) + 1) (by omega) (by omega)]; refine hK _ _ _ ?_; clear hK K) | (with_reducible first | refine rN ?_ | refine sQ ?_ | refine tY hC hP ?_ | refine aY hC hM hP ?_ | refine kQ ?_ | refine lQ ?_ | refine eQ ?_ | refine bQ ?_ | refine cTa ?_ | refine cFa ?_) | simp only [qS, Nat.reduceEqDiff, ↓reduceIte]))
         exact ⟨l + 1, ⟨by omega, .inl (by omega)⟩, by omega, by simp [Sub, lk]⟩
        ·have hE : tab2 n (fun u v => sijL n (pc ll) (pwC m a (n - 1)) (pwC m b (n - 1)) m i j k l u v) = tab2 n (fun u v => sijL n (pc ll) (pwC m a (n - 1)) (pwC m b (n - 1)) m i j (k + 1) j u v) := Av fun u v huv => Aek hk.1 (by omega) huv
         (repeat (first | ((with_reducible refine rC rfl fun K hK => ?_); simp only [go_sem, seval, ↓reduceIte, ← Int.natCast_add, w2, show ¬ ((k + l : Nat) : Int) < (n : Int) by omega, wid ((k : Int) + 1) (by omega) (by omega)]; refine hK _ _ _ ?_; clear hK K) | (with_reducible first | refine rN ?_ | refine sQ ?_ | refine tY hC hP ?_ | refine aY hC hM hP ?_ | refine kQ ?_ | refine lQ ?_ | refine eQ ?_ | refine bQ ?_ | refine cTa ?_ | refine cFa ?_) | simp only [qS, Nat.reduceEqDiff, ↓reduceIte]))
         exact ⟨k + 1, ⟨by omega, by omega⟩, by omega, by simp only [hE]; simp [Sub, lk]⟩
      ·have hE : tab2 n (fun u v => sijL n (pc ll) (pwC m a (n - 1)) (pwC m b (n - 1)) m i j k j u v) = tab2 n (fun u v => sij n (pc ll) (pwC m a (n - 1)) (pwC m b (n - 1)) i (j + 1) u v % m) := Av fun u v huv => Aej (by
        by_cases h9 : pc ll i j = 0
        ·exact .inr h9
        ·exact .inl (Nat.le_of_not_lt fun h => hgo ⟨h, h9⟩)) (hlo a ha0) (hlo b hb0) huv
       by_cases hkn : k < n
       ·have h9 : pc ll i j = 0 := Classical.byContradiction fun h => hgo ⟨hkn, h⟩
        (repeat (first | ((with_reducible refine rC rfl fun K hK => ?_); simp only [go_sem, seval, ↓reduceIte, show (k : Int) < (n : Int) by omega, Aj ll i (by rw [hl.len]; exact hin), Ac, hl.len, Int.toNat_natCast, Int.natCast_nonneg, show (i : Int) < (n : Int) by omega, Aa _ j hj1, hrow, show ((j : Nat) : Int) < ((n - i : Nat) : Int) by omega, show (ll.getD i []).getD j 0 = pc ll i j from rfl, h9, show ((0 : Int) != 0) = false from rfl, wid ((j : Int) + 1) (by omega) (by omega)]; refine hK _ _ _ ?_; clear hK K) | (with_reducible first | refine rN ?_ | refine sQ ?_ | refine tY hC hP ?_ | refine aY hC hM hP ?_ | refine kQ ?_ | refine lQ ?_ | refine eQ ?_ | refine bQ ?_ | refine cTa ?_ | refine cFa ?_) | simp only [qS, Nat.reduceEqDiff, ↓reduceIte]))
        exact ⟨j + 1, by omega, by omega, by simp only [hE]; simp [Sub, lk]⟩
       ·(repeat (first | ((with_reducible refine rC rfl fun K hK => ?_); simp only [go_sem, seval, ↓reduceIte, show ¬ (k : Int) < (n : Int) by omega, wid ((j : Int) + 1) (by omega) (by omega)]; refine hK _ _ _ ?_; clear hK K) | (with_reducible first | refine rN ?_ | refine sQ ?_ | refine tY hC hP ?_ | refine aY hC hM hP ?_ | refine kQ ?_ | refine lQ ?_ | refine eQ ?_ | refine bQ ?_ | refine cTa ?_ | refine cFa ?_) | simp only [qS, Nat.reduceEqDiff, ↓reduceIte]))
        exact ⟨j + 1, by omega, by omega, by simp only [hE]; simp [Sub, lk]⟩
    ·have hE : tab2 n (fun u v => sij n (pc ll) (pwC m a (n - 1)) (pwC m b (n - 1)) i j u v % m) = tab2 n (fun u v => sij n (pc ll) (pwC m a (n - 1)) (pwC m b (n - 1)) (i + 1) 0 u v % m) := Av fun u v _ => by rw [show j = n - i by omega, Sk]
     (repeat (first | ((with_reducible refine rC rfl fun K hK => ?_); simp only [go_sem, seval, ↓reduceIte, ← Int.natCast_add, w1, show ¬ ((i + j : Nat) : Int) < (n : Int) by omega, wid ((i : Int) + 1) (by omega) (by omega)]; refine hK _ _ _ ?_; clear hK K) | (with_reducible first | refine rN ?_ | refine sQ ?_ | refine tY hC hP ?_ | refine aY hC hM hP ?_ | refine kQ ?_ | refine lQ ?_ | refine eQ ?_ | refine bQ ?_ | refine cTa ?_ | refine cFa ?_) | simp only [qS, Nat.reduceEqDiff, ↓reduceIte]))
     exact ⟨i + 1, by omega, by omega, by simp only [hE]; simp [Sub, lk]⟩
  ·have hie : i = n := by omega
   subst hie
   (repeat (first | ((with_reducible refine rC rfl fun K hK => ?_); simp only [go_sem, seval, ↓reduceIte, show ¬ (i : Int) < (i : Int) by omega]; refine hK _ _ _ ?_; clear hK K) | (with_reducible first | refine rN ?_ | refine sQ ?_ | refine tY hC hP ?_ | refine aY hC hM hP ?_ | refine kQ ?_ | refine lQ ?_ | refine eQ ?_ | refine bQ ?_ | refine cTa ?_ | refine cFa ?_) | simp only [qS, Nat.reduceEqDiff, ↓reduceIte]))
   refine rt1 ?_
   rfl
theorem Ol (m : Int) (ll : List (List Int)) (a : List Int) (n : Nat) (hm : 1 < m) (hm2 : m ≤ 10000) (hl : Pl m n ll) (ha : ∀ x ∈ a, 0 ≤ x ∧ x < m) (hal : a.length = n) (ha0 : at' a 0 = 0) (hn : 1 ≤ n) (hn2 : n ≤ 1000) : AFn Tryz.prog 258 [.int .i64 m, .sl false 27 (rowsF ll), .sl false 2 (intL a)] (.sl true 27 (rowsO (bthT m n (pc ll) (pwC m a (n - 1)) (pwC m a (n - 1))))) := by
 refine fO Tryz.func258 Tryz.ntmps258 (by rw [Tryz.results258]) fun C hP hM hC => ?_
 (repeat (first | ((with_reducible refine rC rfl fun K hK => ?_); simp only [go_sem, seval, ↓reduceIte]; (first | refine hK _ _ _ ?_ | refine ⟨_, Qi m ll a a n hm hm2 hl ha hal ha hal ha0 ha0 hn hn2, hK _ _ _ ?_⟩); clear hK K) | (with_reducible first | refine rN ?_ | refine sQ ?_ | refine tY hC hP ?_ | refine aY hC hM hP ?_ | refine kQ ?_ | refine lQ ?_ | refine eQ ?_ | refine bQ ?_ | refine cTa ?_ | refine cFa ?_) | simp only [qS, Nat.reduceEqDiff, ↓reduceIte]))
 refine rt1 ?_
 rfl
theorem Jk (m : Int) (lf lg : List (List Int)) (a : List Int) (n : Nat) (hm : 1 < m) (hm2 : m ≤ 10000) (hf : Pl m n lf) (hg : Pl m n lg) (ha : ∀ x ∈ a, 0 ≤ x ∧ x < m) (hal : a.length = n) (hn : 1 ≤ n) (hn2 : n ≤ 1000) : AFn Tryz.prog 149 [.agg [.int .i64 m, .sl false 27 (rowsF lf)], .agg [.int .i64 m, .sl false 27 (rowsF lg)], .agg [.int .i64 m, .sl false 2 (intL a)]] (.bool (hmB m n (pc lf) (pc lg) a)) := by
 refine fO Tryz.func149 Tryz.ntmps149 (by rw [Tryz.results149]) fun C hP hM hC => ?_
 have h1 := Hh m a lf n (by omega) hm2 hf ha (by omega) hn hn2
 have h2 := Mv m lg a a n hm hm2 hg ha hal ha hal hn hn2
 rw [Td] at h1
 rw [bthT] at h2
 have h3 := My m n (pc (aftL m n (pc lf) a a.length)) (fun u v => sij n (pc lg) (pwC m a (n - 1)) (pwC m a (n - 1)) n 0 u v % m) hn2
 have hb : hmB m n (pc lf) (pc lg) a = decide (tab2 n (pc (aftL m n (pc lf) a a.length)) = tab2 n (fun u v => sij n (pc lg) (pwC m a (n - 1)) (pwC m a (n - 1)) n 0 u v % m)) := by
  unfold hmB
  rw [← Td]
  rfl
 (repeat (first | ((with_reducible refine rC rfl fun K hK => ?_); simp only [go_sem, seval, ↓reduceIte]; (first | refine hK _ _ _ ?_ | refine ⟨_, h1, hK _ _ _ ?_⟩ | refine ⟨_, h2, hK _ _ _ ?_⟩ | refine ⟨_, h3, hK _ _ _ ?_⟩); clear hK K) | (with_reducible first | refine rN ?_ | refine sQ ?_ | refine tY hC hP ?_ | refine aY hC hM hP ?_ | refine kQ ?_ | refine lQ ?_ | refine eQ ?_ | refine bQ ?_ | refine cTa ?_ | refine cFa ?_) | simp only [qS, Nat.reduceEqDiff, ↓reduceIte]))
 refine rt1 ?_
 rw [hb]
def unB (m a : Int) : Bool := Nat.gcd a.toNat m.toNat == 1
theorem Q6 (m a : Nat) (hm : m ≤ 10000) (ha : a ≤ 10000) : AFn Tryz.prog 151 [.int .i64 m, .int .i64 a] (.bool (unB m a)) := by
 refine fO Tryz.func151 Tryz.ntmps151 (by rw [Tryz.results151]) fun C hP hM hC => ?_
 have h1 := Aar a m (by omega) (by omega)
 obtain ⟨g, hg⟩ : ∃ g, Nat.gcd a m = g := ⟨_, rfl⟩
 rw [hg] at h1
 have hu : unB m a = (g == 1) := by rw [unB, Int.toNat_natCast, Int.toNat_natCast, hg]
 by_cases e : g = 1
 ·(repeat (first | ((with_reducible refine rC rfl fun K hK => ?_); simp only [go_sem, seval, ↓reduceIte, show ((g : Int) == 1) = true by rw [beq_iff_eq]; omega]; (first | refine hK _ _ _ ?_ | refine ⟨_, h1, hK _ _ _ ?_⟩); clear hK K) | (with_reducible first | refine rN ?_ | refine sQ ?_ | refine tY hC hP ?_ | refine aY hC hM hP ?_ | refine kQ ?_ | refine lQ ?_ | refine eQ ?_ | refine bQ ?_ | refine cTa ?_ | refine cFa ?_) | simp only [qS, Nat.reduceEqDiff, ↓reduceIte]))
  refine rt1 ?_
  rw [hu, beq_iff_eq.2 e]
 ·(repeat (first | ((with_reducible refine rC rfl fun K hK => ?_); simp only [go_sem, seval, ↓reduceIte, show ((g : Int) == 1) = false by rw [beq_eq_false_iff_ne]; omega]; (first | refine hK _ _ _ ?_ | refine ⟨_, h1, hK _ _ _ ?_⟩); clear hK K) | (with_reducible first | refine rN ?_ | refine sQ ?_ | refine tY hC hP ?_ | refine aY hC hM hP ?_ | refine kQ ?_ | refine lQ ?_ | refine eQ ?_ | refine bQ ?_ | refine cTa ?_ | refine cFa ?_) | simp only [qS, Nat.reduceEqDiff, ↓reduceIte]))
  refine rt1 ?_
  rw [hu, beq_eq_false_iff_ne.2 e]
end Go.Proofs.YtapdekacpecgiaaGreat

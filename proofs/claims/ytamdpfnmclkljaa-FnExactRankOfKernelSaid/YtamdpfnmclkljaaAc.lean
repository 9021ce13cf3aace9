/-
  Sums under a law, in rings.
-/
import Derived.Test.YtamdpfnmclkljaaAb
import Derived.Test.YtamdpfnmclkljaaKg
import Derived.Test.YtamdpfnmclkljaaQd
namespace Go.Proofs.Ytamdpfnmclkljaa
open Go.RowKit
set_option linter.unusedSimpArgs false
set_option linter.unusedVariables false
set_option linter.unusedSectionVars false
set_option maxRecDepth 20000
-- Sums under a law, in rings.
theorem Rg.c_mod {R : Type} (K : Rg R) {m : Int} (hc : K.c m = K.c 0) (z : Int) : K.c (z % m) = K.c z := by
  have h : K.c (m * (z / m) + z % m) = K.c (z % m) := by rw [K.cA, K.cM, hc, K.mZl, K.aZl]
  rw [Int.mul_ediv_add_emod] at h
  exact h.symm
theorem Rg.c_eq {R : Type} (K : Rg R) {m : Int} (hc : K.c m = K.c 0) {z w : Int} (h : z % m = w % m) : K.c z = K.c w := by
  rw [← K.c_mod hc z, h, K.c_mod hc]
/-- A ring in which a law is looked at. -/
structure LwR {R : Type} (K : Rg R) (N d : Nat) (m : Int) (t : Nat → Nat → Int) where
  S : Fil K N
  hN : N ≤ d
  hd : 1 ≤ d
  hm : 1 < m
  hc : K.c m = K.c 0
  out : ∀ i j, d < i + j → t i j = 0
  hw : IsLw m (d + 1) t
namespace LwR
theorem e2_one {R : Type} {K : Rg R} {N d : Nat} {m : Int} {t : Nat → Nat → Int} (L : LwR K N d m t) {x y : R} (hx : L.S.O 1 x) (hy : L.S.O 1 y) : K.e2 d (pc (numP m 1 (d + 1))) x y = K.c 1 := by
  have hN := L.hN
  rw [L.S.e2_congr (Q := fun u v => if u = 0 ∧ v = 0 then 1 else 0) hx hy (fun i j h => by
    rw [numP, pc_tab2 (by omega)]
    split
    · exact K.c_mod L.hc 1
    · rfl), K.e2_sum, K.s_one (show 0 < d + 1 by omega) (fun i h1 h2 => K.s_zero fun j _ => by rw [if_neg (by omega), K.mZl]), K.s_one (show 0 < d + 1 by omega) (fun j h1 h2 => by rw [if_neg (by omega), K.mZl])]
  simp only [Rg.p, and_self, if_pos, K.mI]
theorem e2_pw {R : Type} {K : Rg R} {N d : Nat} {m : Int} {t : Nat → Nat → Int} (L : LwR K N d m t) {x y : R} (hx : L.S.O 1 x) (hy : L.S.O 1 y) : ∀ i, K.e2 d (pc (pwP m (d + 1) t i)) x y = K.p (K.e2 d t x y) i
  | 0 => L.e2_one hx hy
  | i + 1 => by
    have hN := L.hN
    rw [Rg.p, ← e2_pw L hx hy i, L.S.e2_mul L.hN hx hy]
    exact L.S.e2_congr hx hy fun u v h => by
      rw [pwP, pmul, pc_tab2 (by omega), K.c_mod L.hc]; rfl
theorem t0 {R : Type} {K : Rg R} {N d : Nat} {m : Int} {t : Nat → Nat → Int} (L : LwR K N d m t) (i : Nat) : t i 0 = if i = 1 then 1 else 0 := by
  by_cases h : i < d + 1
  · exact L.hw.1 i h
  · have := L.hd
    rw [L.out i 0 (by omega), if_neg (by omega)]
theorem sym {R : Type} {K : Rg R} {N d : Nat} {m : Int} {t : Nat → Nat → Int} (L : LwR K N d m t) (i j : Nat) : t i j = t j i := by
  by_cases h : i + j < d + 1
  · rcases Nat.lt_trichotomy i j with e | e | e
    · exact L.hw.2.1 i j e h
    · rw [e]
    · exact (L.hw.2.1 j i e (by omega)).symm
  · rw [L.out i j (by omega), L.out j i (by omega)]
/-- Sums. -/
def F {R : Type} {K : Rg R} {N d : Nat} {m : Int} {t : Nat → Nat → Int} (L : LwR K N d m t) (x y : R) : R := K.e2 d t x y
theorem comm {R : Type} {K : Rg R} {N d : Nat} {m : Int} {t : Nat → Nat → Int} (L : LwR K N d m t) (x y : R) : L.F x y = L.F y x := by
  rw [F, F, K.e2_sum, K.e2_sum, K.s_swap]
  refine K.s_congr fun i _ => K.s_congr fun j _ => ?_
  rw [L.sym j i, K.mC (K.p x j)]
theorem fz {R : Type} {K : Rg R} {N d : Nat} {m : Int} {t : Nat → Nat → Int} (L : LwR K N d m t) (x : R) : L.F x (K.c 0) = x := by
  have hd := L.hd
  rw [F, K.e2_sum, K.s_congr (g := fun i => K.m (K.c (t i 0)) (K.p x i)) (fun i _ => by
    rw [K.s_one (show 0 < d + 1 by omega) (fun j h1 h2 => by
      obtain ⟨k, rfl⟩ := Nat.exists_eq_succ_of_ne_zero h2
      rw [Rg.p, K.mZ, K.mZ, K.mZ])]
    rw [Rg.p, K.mI]), K.s_one (show 1 < d + 1 by omega) (fun i h1 h2 => by rw [L.t0, if_neg h2, K.mZl])]
  rw [L.t0, if_pos rfl, Rg.p, Rg.p, K.mIl, K.mIl]
theorem zf {R : Type} {K : Rg R} {N d : Nat} {m : Int} {t : Nat → Nat → Int} (L : LwR K N d m t) (x : R) : L.F (K.c 0) x = x := by rw [L.comm, L.fz]
theorem fo {R : Type} {K : Rg R} {N d : Nat} {m : Int} {t : Nat → Nat → Int} (L : LwR K N d m t) {x y : R} (hx : L.S.O 1 x) (hy : L.S.O 1 y) : L.S.O 1 (L.F x y) := by
  rw [F, K.e2_sum]
  refine L.S.sum fun i _ => L.S.sum fun j _ => ?_
  by_cases h : i + j = 0
  · rw [show i = 0 by omega, show j = 0 by omega, L.t0, if_neg (by omega), K.mZl]; exact L.S.zero 1
  · have := L.S.mul (L.S.cst (K.c (t i j))) (L.S.mul (L.S.pw1 hx i) (L.S.pw1 hy j))
    exact L.S.low (by omega) this
theorem left {R : Type} {K : Rg R} {N d : Nat} {m : Int} {t : Nat → Nat → Int} (L : LwR K N d m t) {x y z : R} (hx : L.S.O 1 x) (hy : L.S.O 1 y) : L.F (L.F x y) z = K.s (d + 1) (fun u => K.s (d + 1) (fun v => K.s (d + 1) (fun k => K.m (K.c (lfS m (d + 1) t u v k)) (K.m (K.p x u) (K.m (K.p y v) (K.p z k)))))) := by
  rw [show L.F (L.F x y) z = K.e2 d t (K.e2 d t x y) z from rfl, K.e2_sum, K.s_swap]
  rw [K.s_congr (n := d + 1) (g := fun k => K.s (d + 1) (fun u => K.s (d + 1) (fun v => K.m (K.c (lfS m (d + 1) t u v k)) (K.m (K.p x u) (K.m (K.p y v) (K.p z k)))))) (fun k hk => by
    rw [K.s_congr (g := fun i => K.m (K.m (K.c (t i k)) (K.e2 d (pc (pwP m (d + 1) t i)) x y)) (K.p z k)) (fun i _ => by rw [L.e2_pw hx hy, K.mA]), ← K.s_mulr, ← K.e2_add, K.e2_sum, K.s_mulr]
    refine K.s_congr fun u _ => ?_
    rw [K.s_mulr]
    refine K.s_congr fun v _ => ?_
    rw [lfS, sm_tail (show d + 1 - k ≤ d + 1 by omega) (fun i h1 h2 => by rw [L.out i k (by omega), Int.zero_mul])]
    ac_rfl)]
  rw [K.s_swap]
  exact K.s_congr fun u _ => K.s_swap _ _ _
theorem right {R : Type} {K : Rg R} {N d : Nat} {m : Int} {t : Nat → Nat → Int} (L : LwR K N d m t) {x y z : R} (hy : L.S.O 1 y) (hz : L.S.O 1 z) : L.F x (L.F y z) = K.s (d + 1) (fun u => K.s (d + 1) (fun v => K.s (d + 1) (fun k => K.m (K.c (rtS m (d + 1) t u v k)) (K.m (K.p x u) (K.m (K.p y v) (K.p z k)))))) := by
  rw [show L.F x (L.F y z) = K.e2 d t x (K.e2 d t y z) from rfl, K.e2_sum]
  refine K.s_congr fun u hu => ?_
  rw [K.s_congr (g := fun j => K.m (K.m (K.c (t u j)) (K.e2 d (pc (pwP m (d + 1) t j)) y z)) (K.p x u)) (fun j _ => by rw [L.e2_pw hy hz]; ac_rfl), ← K.s_mulr, ← K.e2_add, K.e2_sum, K.s_mulr]
  refine K.s_congr fun v _ => ?_
  rw [K.s_mulr]
  refine K.s_congr fun k _ => ?_
  rw [rtS, sm_tail (show d + 1 - u ≤ d + 1 by omega) (fun j h1 h2 => by rw [L.out u j (by omega), Int.zero_mul])]
  ac_rfl
theorem assoc {R : Type} {K : Rg R} {N d : Nat} {m : Int} {t : Nat → Nat → Int} (L : LwR K N d m t) {x y z : R} (hx : L.S.O 1 x) (hy : L.S.O 1 y) (hz : L.S.O 1 z) : L.F (L.F x y) z = L.F x (L.F y z) := by
  have hN := L.hN
  rw [L.left hx hy, L.right hy hz]
  refine K.s_congr fun u _ => K.s_congr fun v _ => K.s_congr fun k _ => ?_
  by_cases h : u + v + k ≤ N
  · rw [K.c_eq L.hc (L.hw.2.2 u v k (by omega))]
  · rw [L.S.top (show N < u + (v + k) by omega) (L.S.mul (L.S.pw1 hx u) (L.S.mul (L.S.pw1 hy v) (L.S.pw1 hz k))), K.mZ, K.mZ]
/-- Multiples. -/
def kf {R : Type} {K : Rg R} {N d : Nat} {m : Int} {t : Nat → Nat → Int} (L : LwR K N d m t) : Nat → R → R
  | 0, _ => K.c 0
  | n + 1, x => L.F (kf L n x) x
theorem kf_o {R : Type} {K : Rg R} {N d : Nat} {m : Int} {t : Nat → Nat → Int} (L : LwR K N d m t) {x : R} (hx : L.S.O 1 x) : ∀ n, L.S.O 1 (L.kf n x)
  | 0 => L.S.zero 1
  | n + 1 => L.fo (kf_o L hx n) hx
theorem f4 {R : Type} {K : Rg R} {N d : Nat} {m : Int} {t : Nat → Nat → Int} (L : LwR K N d m t) {x y z w : R} (hx : L.S.O 1 x) (hy : L.S.O 1 y) (hz : L.S.O 1 z) (hw : L.S.O 1 w) : L.F (L.F x y) (L.F z w) = L.F (L.F x z) (L.F y w) := by
  rw [L.assoc hx hy (L.fo hz hw), ← L.assoc hy hz hw, L.comm y z, L.assoc hz hy hw, ← L.assoc hx hz (L.fo hy hw)]
theorem kf_F {R : Type} {K : Rg R} {N d : Nat} {m : Int} {t : Nat → Nat → Int} (L : LwR K N d m t) {x y : R} (hx : L.S.O 1 x) (hy : L.S.O 1 y) : ∀ n, L.kf n (L.F x y) = L.F (L.kf n x) (L.kf n y)
  | 0 => (L.fz _).symm
  | n + 1 => by rw [kf, kf_F L hx hy n, L.f4 (L.kf_o hx n) (L.kf_o hy n) hx hy]; rfl
theorem kf_add {R : Type} {K : Rg R} {N d : Nat} {m : Int} {t : Nat → Nat → Int} (L : LwR K N d m t) {x : R} (hx : L.S.O 1 x) (i : Nat) : ∀ j, L.kf (i + j) x = L.F (L.kf i x) (L.kf j x)
  | 0 => (L.fz _).symm
  | j + 1 => by rw [← Nat.add_assoc, kf, kf_add L hx i j, kf, L.assoc (L.kf_o hx i) (L.kf_o hx j) hx]
/-- What a law is in low degrees. -/
theorem lin {R : Type} {K : Rg R} {N d : Nat} {m : Int} {t : Nat → Nat → Int} (L : LwR K N d m t) {x y : R} {k : Nat} (hk : 1 ≤ k) (hx : L.S.O k x) (hy : L.S.O k y) : ∃ w, L.S.O (2 * k) w ∧ L.F x y = K.a (K.a x y) w := by
  have hd := L.hd
  refine ⟨K.s d (fun i => K.s d (fun j => K.m (K.c (t (i + 1) (j + 1))) (K.m (K.p x (i + 1)) (K.p y (j + 1))))), ?_, ?_⟩
  · refine L.S.sum fun i _ => L.S.sum fun j _ => ?_
    have h1 := L.S.mul (L.S.cst (K.c (t (i + 1) (j + 1)))) (L.S.mul (L.S.pw hx (i + 1)) (L.S.pw hy (j + 1)))
    refine L.S.low ?_ h1
    have e1 : (i + 1) * k = i * k + k := Nat.succ_mul _ _
    have e2 : (j + 1) * k = j * k + k := Nat.succ_mul _ _
    omega
  · have h0 : K.s (d + 1) (fun j => K.m (K.c (t 0 j)) (K.m (K.p x 0) (K.p y j))) = y := by
      rw [K.s_one (show 1 < d + 1 by omega) (fun j h1 h2 => by rw [L.sym 0 j, L.t0, if_neg h2, K.mZl])]
      rw [L.sym 0 1, L.t0, if_pos rfl, Rg.p, Rg.p, Rg.p, K.mIl, K.mIl, K.mIl]
    have h1 : ∀ i, K.s (d + 1) (fun j => K.m (K.c (t (i + 1) j)) (K.m (K.p x (i + 1)) (K.p y j))) = K.a (K.m (K.c (t (i + 1) 0)) (K.p x (i + 1))) (K.s d (fun j => K.m (K.c (t (i + 1) (j + 1))) (K.m (K.p x (i + 1)) (K.p y (j + 1))))) := fun i => by
      rw [K.s_left]
      simp only [Rg.p, K.mI]
    have h2 : K.s d (fun i => K.m (K.c (t (i + 1) 0)) (K.p x (i + 1))) = x := by
      rw [K.s_one (show 0 < d by omega) (fun i h1 h2 => by rw [L.t0, if_neg (by omega), K.mZl])]
      rw [L.t0, if_pos (by omega), Rg.p, Rg.p, K.mIl, K.mIl]
    rw [F, K.e2_sum, K.s_left, h0, K.s_congr fun i _ => h1 i, K.s_add, h2]
    ac_rfl
/-- The value of a series. -/
def v {R : Type} (K : Rg R) (d : Nat) (l : List Int) (x : R) : R := K.ev d (fun i => K.c (at' l i)) x
theorem v_tab {R : Type} {K : Rg R} {N d : Nat} {m : Int} {t : Nat → Nat → Int} (L : LwR K N d m t) (f : Nat → Int) (x : R) : v K d (tab (d + 1) f) x = K.ev d (fun i => K.c (f i)) x := K.ev_congr fun i hi => by rw [at_tab (by omega)]
theorem v_times {R : Type} {K : Rg R} {N d : Nat} {m : Int} {t : Nat → Nat → Int} (L : LwR K N d m t) (a b : List Int) {x : R} (hx : L.S.O 1 x) : v K d (timesL m a b d) x = K.m (v K d a x) (v K d b x) := by
  have hN := L.hN
  rw [timesL, L.v_tab, v, v, K.ev_mul fun i hi => L.S.nil hx (by omega)]
  refine K.ev_congr fun i _ => ?_
  rw [K.c_mod L.hc, cv, K.c_sm]
  exact K.s_congr fun j _ => K.cM _ _
theorem v_add {R : Type} {K : Rg R} {N d : Nat} {m : Int} {t : Nat → Nat → Int} (L : LwR K N d m t) (a b : List Int) (x : R) : v K d (addL m a b d) x = K.a (v K d a x) (v K d b x) := by
  rw [addL, L.v_tab, v, v, ← K.ev_add]
  exact K.ev_congr fun i _ => by rw [K.c_mod L.hc, K.cA]
theorem v_sc {R : Type} {K : Rg R} {N d : Nat} {m : Int} {t : Nat → Nat → Int} (L : LwR K N d m t) (c : Int) (a : List Int) (x : R) : v K d (scL m c a d) x = K.m (K.c c) (v K d a x) := by
  rw [scL, L.v_tab, v, ← K.ev_smul]
  exact K.ev_congr fun i _ => by rw [K.c_mod L.hc, K.cM]
theorem v_zero {R : Type} {K : Rg R} {N d : Nat} {m : Int} {t : Nat → Nat → Int} (L : LwR K N d m t) (x : R) : v K d (tab (d + 1) (fun _ => 0)) x = K.c 0 := by
  rw [L.v_tab, Rg.ev]; exact K.s_zero fun i _ => K.mZl _
theorem v_one {R : Type} {K : Rg R} {N d : Nat} {m : Int} {t : Nat → Nat → Int} (L : LwR K N d m t) (x : R) : v K d (oneL d) x = K.c 1 := by
  rw [oneL, L.v_tab, Rg.ev, K.s_one (show 0 < d + 1 by omega) (fun i h1 h2 => by rw [if_neg h2, K.mZl])]
  rw [if_pos rfl, K.mIl]; rfl
theorem v_var {R : Type} {K : Rg R} {N d : Nat} {m : Int} {t : Nat → Nat → Int} (L : LwR K N d m t) (x : R) : v K d (varL d) x = x := by
  have hd := L.hd
  rw [varL, L.v_tab, Rg.ev, K.s_one (show 1 < d + 1 by omega) (fun i h1 h2 => by rw [if_neg h2, K.mZl])]
  rw [if_pos rfl, Rg.p, Rg.p, K.mIl, K.mIl]
theorem v_pw {R : Type} {K : Rg R} {N d : Nat} {m : Int} {t : Nat → Nat → Int} (L : LwR K N d m t) (a : List Int) {x : R} (hx : L.S.O 1 x) : ∀ k, v K d (pwS m a d k) x = K.p (v K d a x) k
  | 0 => L.v_one x
  | k + 1 => by rw [pwS, L.v_times _ _ hx, v_pw L a hx k]; rfl
theorem v_putR {R : Type} {K : Rg R} {N d : Nat} {m : Int} {t : Nat → Nat → Int} (L : LwR K N d m t) (P Q : Nat → List Int) (i : Nat) (acc : List Int) {x : R} (hx : L.S.O 1 x) : ∀ j, v K d (putR m t P Q d i acc j) x = K.a (v K d acc x) (K.s j (fun j => K.m (K.c (t i j)) (K.m (v K d (P i) x) (v K d (Q j) x))))
  | 0 => by rw [putR, Rg.s, K.aZ]
  | j + 1 => by
    rw [putR, Rg.s]
    split
    · next h => rw [v_putR L P Q i acc hx j, h, K.mZl, K.aZ]
    · rw [L.v_add, v_putR L P Q i acc hx j, L.v_sc, L.v_times _ _ hx, K.aA]
theorem v_putO {R : Type} {K : Rg R} {N d : Nat} {m : Int} {t : Nat → Nat → Int} (L : LwR K N d m t) (P Q : Nat → List Int) {x : R} (hx : L.S.O 1 x) : ∀ i, v K d (putO m t P Q d i) x = K.s i (fun i => K.s (d + 1 - i) (fun j => K.m (K.c (t i j)) (K.m (v K d (P i) x) (v K d (Q j) x))))
  | 0 => L.v_zero x
  | i + 1 => by rw [putO, L.v_putR P Q i _ hx, v_putO L P Q hx i]; rfl
theorem v_put {R : Type} {K : Rg R} {N d : Nat} {m : Int} {t : Nat → Nat → Int} (L : LwR K N d m t) (a b : List Int) {x : R} (hx : L.S.O 1 x) : v K d (putL m t a b d) x = L.F (v K d a x) (v K d b x) := by
  rw [putL, L.v_putO _ _ hx, F, K.e2_sum]
  refine K.s_congr fun i hi => ?_
  rw [K.s_tail (show d + 1 - i ≤ d + 1 by omega) (fun j h1 h2 => by rw [L.out i j (by omega), K.mZl])]
  exact K.s_congr fun j _ => by rw [L.v_pw a hx, L.v_pw b hx]
theorem v_mu {R : Type} {K : Rg R} {N d : Nat} {m : Int} {t : Nat → Nat → Int} (L : LwR K N d m t) {x : R} (hx : L.S.O 1 x) (n : Nat) : ∀ (o b : List Int), L.S.O 1 (v K d o x) → L.S.O 1 (v K d b x) → v K d (muL m t d o b n) x = L.F (v K d o x) (L.kf n (v K d b x)) := by
  induction n using Nat.strongRecOn with
  | _ n ih =>
    intro o b ho hb
    rcases Nat.eq_zero_or_pos n with e | e
    · subst e; rw [muL_zero, kf, L.fz]
    · have h2 : L.S.O 1 (v K d (putL m t b b d) x) := by rw [L.v_put _ _ hx]; exact L.fo hb hb
      have e1 : L.kf (n / 2) (v K d (putL m t b b d) x) = L.kf (n / 2 + n / 2) (v K d b x) := by rw [L.v_put _ _ hx, L.kf_F hb hb, ← L.kf_add hb]
      by_cases h : n % 2 = 1
      · have h1 : L.S.O 1 (v K d (putL m t o b d) x) := by rw [L.v_put _ _ hx]; exact L.fo ho hb
        rw [muL_odd h, ih (n / 2) (by omega) _ _ h1 h2, e1, L.v_put _ _ hx, L.assoc ho hb (L.kf_o hb _), L.comm (v K d b x), ← show L.kf (n / 2 + n / 2 + 1) (v K d b x) = L.F (L.kf (n / 2 + n / 2) (v K d b x)) (v K d b x) from rfl, show n / 2 + n / 2 + 1 = n by omega]
      · rw [muL_even e (by omega), ih (n / 2) (by omega) _ _ ho h2, e1, show n / 2 + n / 2 = n by omega]
end LwR
end Go.Proofs.Ytamdpfnmclkljaa

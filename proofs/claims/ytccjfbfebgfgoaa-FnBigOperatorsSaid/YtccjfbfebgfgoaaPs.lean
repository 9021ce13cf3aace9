/-
  Plain laws: power series. No program.
-/
import Derived.Test.YtccjfbfebgfgoaaPd
namespace Go.Proofs.Ytccjfbfebgfgoaa
open Go.RowKit
set_option linter.unusedSimpArgs false
set_option linter.unusedVariables false
set_option linter.unusedSectionVars false
set_option maxRecDepth 20000
-- Plain laws: power series. No program.
/-- A triangle of numbers, added by rows or by the other side. -/
theorem sm_tri (n : Nat) (F : Nat → Nat → Int) : sm (n + 1) (fun i => sm (i + 1) (fun j => F i j)) = sm (n + 1) (fun j => sm (n - j + 1) (fun k => F (j + k) j)) := by
  induction n with
  | zero => simp [sm]
  | succ n ih =>
    have hL : sm (n + 1 + 1) (fun i => sm (i + 1) (fun j => F i j)) = sm (n + 1) (fun i => sm (i + 1) (fun j => F i j)) + sm (n + 1 + 1) (fun j => F (n + 1) j) := rfl
    have hR : sm (n + 1 + 1) (fun j => sm (n + 1 - j + 1) (fun k => F (j + k) j)) = sm (n + 1) (fun j => sm (n + 1 - j + 1) (fun k => F (j + k) j)) + sm (n + 1 - (n + 1) + 1) (fun k => F (n + 1 + k) (n + 1)) := rfl
    rw [hL, hR, ih]
    have h1 : sm (n + 1) (fun j => sm (n + 1 - j + 1) (fun k => F (j + k) j)) = sm (n + 1) (fun j => sm (n - j + 1) (fun k => F (j + k) j) + F (n + 1) j) := by
      refine sm_congr fun j hj => ?_
      rw [show n + 1 - j + 1 = (n - j + 1) + 1 by omega, sm]
      congr 1
      rw [show j + (n - j + 1) = n + 1 by omega]
    rw [h1, sm_add, Nat.sub_self]
    have h2 : sm (n + 1 + 1) (fun j => F (n + 1) j) = sm (n + 1) (fun j => F (n + 1) j) + F (n + 1) (n + 1) := rfl
    rw [h2]
    have h3 : sm (0 + 1) (fun k => F (n + 1 + k) (n + 1)) = F (n + 1) (n + 1) := by simp [sm]
    rw [h3]
    have h4 : sm (n + 1) (fun j => F (n + 1) j) = sm (n + 1) (F (n + 1)) := rfl
    omega
theorem cv_comm (f g : Nat → Int) : cv f g = cv g f := by
  funext n
  unfold cv
  rw [sm_rev]
  refine sm_congr fun i hi => ?_
  rw [show n + 1 - 1 - i = n - i by omega, show n - (n - i) = i by omega, Int.mul_comm]
theorem cv_assoc (f g h : Nat → Int) : cv (cv f g) h = cv f (cv g h) := by
  funext n
  unfold cv
  have h1 : sm (n + 1) (fun i => sm (i + 1) (fun i_1 => f i_1 * g (i - i_1)) * h (n - i)) = sm (n + 1) (fun i => sm (i + 1) (fun j => f j * g (i - j) * h (n - i))) :=
    sm_congr fun i _ => (sm_mul_right _ _ _).symm
  rw [h1, sm_tri n (fun i j => f j * g (i - j) * h (n - i))]
  refine sm_congr fun j hj => ?_
  rw [← sm_mul]
  refine sm_congr fun k hk => ?_
  rw [show j + k - j = k by omega, show n - (j + k) = n - j - k by omega, Int.mul_assoc]
theorem cv_add_left (f g h : Nat → Int) : cv (fun i => f i + g i) h = fun n => cv f h n + cv g h n := by
  funext n
  unfold cv
  rw [← sm_add]
  exact sm_congr fun i _ => Int.add_mul _ _ _
theorem cv_add_right (f g h : Nat → Int) : cv f (fun i => g i + h i) = fun n => cv f g n + cv f h n := by
  rw [cv_comm, cv_add_left, cv_comm g, cv_comm h]
theorem cv_smul_left (c : Int) (f g : Nat → Int) : cv (fun i => c * f i) g = fun n => c * cv f g n := by
  funext n
  unfold cv
  rw [← sm_mul]
  exact sm_congr fun i _ => Int.mul_assoc _ _ _
theorem cv_smul_right (c : Int) (f g : Nat → Int) : cv f (fun i => c * g i) = fun n => c * cv f g n := by
  rw [cv_comm, cv_smul_left, cv_comm g]
def oneF (n : Nat) : Int := if n = 0 then 1 else 0
theorem cv_one_left (f : Nat → Int) : cv oneF f = f := by
  funext n
  unfold cv
  rw [sm_succ_left, sm_zero (fun i _ => by simp [oneF])]
  simp [oneF]
theorem cv_one_right (f : Nat → Int) : cv f oneF = f := by rw [cv_comm, cv_one_left]
/-- Powers of a power series. -/
def pwF (f : Nat → Int) : Nat → Nat → Int
  | 0 => oneF
  | k + 1 => cv (pwF f k) f
theorem pwF_add (f : Nat → Int) (j k : Nat) : pwF f (j + k) = cv (pwF f j) (pwF f k) := by
  induction k with
  | zero => exact (cv_one_right _).symm
  | succ k ih => rw [← Nat.add_assoc, pwF, ih, pwF, cv_assoc]
theorem pwF_one (f : Nat → Int) : pwF f 1 = f := cv_one_left f
theorem pwF_mul (f : Nat → Int) (j k : Nat) : pwF f (j * k) = pwF (pwF f j) k := by
  induction k with
  | zero => rfl
  | succ k ih => rw [Nat.mul_succ, pwF_add, ih, pwF]
theorem pwF_sq (f : Nat → Int) (k : Nat) : pwF (cv f f) k = pwF f (2 * k) := by
  have : cv f f = pwF f 2 := by rw [pwF, pwF_one]
  rw [this, pwF_mul]
theorem pwF_cv (f g : Nat → Int) (k : Nat) : pwF (cv f g) k = cv (pwF f k) (pwF g k) := by
  induction k with
  | zero => exact (cv_one_left _).symm
  | succ k ih =>
    rw [pwF, ih, pwF, pwF, cv_assoc, cv_assoc]
    congr 1
    rw [← cv_assoc, ← cv_assoc, cv_comm (pwF g k) f]
/-- Equal modulo m up to degree d. -/
def eqm (m : Int) (d : Nat) (f g : Nat → Int) : Prop := ∀ n, n ≤ d → f n % m = g n % m
theorem eqm.rfl' {m : Int} {d : Nat} {f : Nat → Int} : eqm m d f f := fun _ _ => rfl
theorem eqm.symm {m : Int} {d : Nat} {f g : Nat → Int} (h : eqm m d f g) : eqm m d g f := fun n hn => (h n hn).symm
theorem eqm.trans {m : Int} {d : Nat} {f g h : Nat → Int} (h1 : eqm m d f g) (h2 : eqm m d g h) : eqm m d f h := fun n hn => (h1 n hn).trans (h2 n hn)
theorem eqm.of_eq {m : Int} {d : Nat} {f g : Nat → Int} (h : f = g) : eqm m d f g := h ▸ eqm.rfl'
theorem eqm.mono {m : Int} {d e : Nat} {f g : Nat → Int} (h : eqm m d f g) (he : e ≤ d) : eqm m e f g := fun n hn => h n (by omega)
theorem emod_mul_congr {a a' b b' m : Int} (h1 : a % m = a' % m) (h2 : b % m = b' % m) : a * b % m = a' * b' % m := by
  rw [Int.mul_emod, h1, h2, ← Int.mul_emod]
theorem emod_add_congr {a a' b b' m : Int} (h1 : a % m = a' % m) (h2 : b % m = b' % m) : (a + b) % m = (a' + b') % m := by
  rw [Int.add_emod, h1, h2, ← Int.add_emod]
theorem emod_sub_congr {a a' b b' m : Int} (h1 : a % m = a' % m) (h2 : b % m = b' % m) : (a - b) % m = (a' - b') % m := by
  rw [Int.sub_emod, h1, h2, ← Int.sub_emod]
theorem eqm.cv {m : Int} {d : Nat} {f f' g g' : Nat → Int} (h1 : eqm m d f f') (h2 : eqm m d g g') : eqm m d (cv f g) (cv f' g') := fun n hn =>
  sm_emod fun i hi => emod_mul_congr (h1 i (by omega)) (h2 (n - i) (by omega))
theorem eqm.pw {m : Int} {d : Nat} {f f' : Nat → Int} (h : eqm m d f f') (k : Nat) : eqm m d (pwF f k) (pwF f' k) := by
  induction k with
  | zero => exact eqm.rfl'
  | succ k ih => exact ih.cv h
theorem eqm.add {m : Int} {d : Nat} {f f' g g' : Nat → Int} (h1 : eqm m d f f') (h2 : eqm m d g g') : eqm m d (fun n => f n + g n) (fun n => f' n + g' n) := fun n hn => emod_add_congr (h1 n hn) (h2 n hn)
theorem eqm_times (m : Int) (a b : List Int) (d : Nat) : eqm m d (at' (timesL m a b d)) (cv (at' a) (at' b)) := fun n hn => by
  rw [timesL, at_tab (by omega), Int.emod_emod]
theorem at_oneL (d n : Nat) (h : n ≤ d) : at' (oneL d) n = oneF n := by rw [oneL, at_tab (by omega)]; rfl
theorem eqm_one (m : Int) (d : Nat) : eqm m d (at' (oneL d)) oneF := fun n hn => by rw [at_oneL d n hn]
theorem eqm_pw (m : Int) (d : Nat) (k : Nat) : ∀ (out a : List Int), eqm m d (at' (pwL m d out a k)) (cv (at' out) (pwF (at' a) k)) := by
  induction k using Nat.strongRecOn with
  | _ k ih =>
    intro out a
    rcases Nat.eq_zero_or_pos k with e | e
    · subst e; rw [pwL_zero]; exact eqm.of_eq (cv_one_right _).symm
    · have h2 : eqm m d (pwF (at' (timesL m a a d)) (k / 2)) (pwF (at' a) (2 * (k / 2))) := by
        rw [← pwF_sq]; exact (eqm_times m a a d).pw _
      by_cases h : k % 2 = 1
      · rw [pwL_odd h]
        refine (ih _ (by omega) _ _).trans (((eqm_times m out a d).cv h2).trans (eqm.of_eq ?_))
        rw [cv_assoc, cv_comm (at' a), ← pwF, show (2 * (k / 2)).succ = k by omega]
      · rw [pwL_even e (by omega)]
        refine (ih _ (by omega) _ _).trans ((eqm.rfl'.cv h2).trans (eqm.of_eq ?_))
        rw [show 2 * (k / 2) = k by omega]
theorem eqm_pow (m : Int) (a : List Int) (k d : Nat) : eqm m d (at' (powL m a k d)) (pwF (at' a) k) :=
  (eqm_pw m d k _ _).trans (((eqm_one m d).cv eqm.rfl').trans (eqm.of_eq (cv_one_left _)))

end Go.Proofs.Ytccjfbfebgfgoaa

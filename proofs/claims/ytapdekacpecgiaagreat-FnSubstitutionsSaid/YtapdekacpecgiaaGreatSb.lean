/-
  What the program's substitutions are. No program.
-/
import Derived.Test.YtapdekacpecgiaaGreatSa
namespace Go.Proofs.YtapdekacpecgiaaGreat
open Go.RowKit
set_option linter.unusedSimpArgs false
set_option linter.unusedVariables false
set_option linter.unusedSectionVars false
set_option maxRecDepth 20000
-- What the program's substitutions are. No program.
theorem dg_congr {P Q : Nat → Nat → Int} {n : Nat} {m : Int} (h : ∀ i, i ≤ n → P i (n - i) % m = Q i (n - i) % m) : dg P n % m = dg Q n % m := sm_emod fun i hi => h i (by omega)
theorem cv_mod {a a' b b' : Nat → Int} {m : Int} {n : Nat} (h1 : ∀ i, i ≤ n → a i % m = a' i % m) (h2 : ∀ i, i ≤ n → b i % m = b' i % m) : cv a b n % m = cv a' b' n % m :=
  sm_emod fun i hi => emod_mul_congr (h1 i (by omega)) (h2 _ (by omega))
theorem at_add {m : Int} {a b : List Int} {d u : Nat} (h : u ≤ d) : at' (addL m a b d) u % m = (at' a u + at' b u) % m := by rw [addL, at_tab (by omega), Int.emod_emod]
theorem at_sc {m c : Int} {a : List Int} {d u : Nat} (h : u ≤ d) : at' (scL m c a d) u % m = c * at' a u % m := by rw [scL, at_tab (by omega), Int.emod_emod]
theorem at_times {m : Int} {a b : List Int} {d u : Nat} (h : u ≤ d) : at' (timesL m a b d) u % m = cv (at' a) (at' b) u % m := by rw [timesL, at_tab (by omega), Int.emod_emod]
theorem putR_at {m : Int} (t : Nat → Nat → Int) (P Q : Nat → List Int) (d i : Nat) (acc : List Int) {u : Nat} (hu : u ≤ d) : ∀ j, at' (putR m t P Q d i acc j) u % m = (at' acc u + sm j (fun j => t i j * cv (at' (P i)) (at' (Q j)) u)) % m
  | 0 => by simp [putR, sm]
  | j + 1 => by
    have ih := putR_at (m := m) t P Q d i acc hu j
    unfold putR
    rw [show sm (j + 1) (fun j => t i j * cv (at' (P i)) (at' (Q j)) u) = sm j (fun j => t i j * cv (at' (P i)) (at' (Q j)) u) + t i j * cv (at' (P i)) (at' (Q j)) u from rfl]
    split
    · rename_i h
      rw [ih, h, Int.zero_mul, Int.add_zero]
    · rw [at_add hu, ← Int.add_assoc]
      refine emod_add_congr ih ?_
      rw [at_sc hu]
      exact emod_mul_congr rfl (at_times hu)
theorem putO_at {m : Int} (t : Nat → Nat → Int) (P Q : Nat → List Int) (d : Nat) {u : Nat} (hu : u ≤ d) : ∀ i, at' (putO m t P Q d i) u % m = sm i (fun i => sm (d + 1 - i) (fun j => t i j * cv (at' (P i)) (at' (Q j)) u)) % m
  | 0 => by rw [putO, at_tab (by omega)]; rfl
  | i + 1 => by
    rw [putO, putR_at t P Q d i _ hu]
    exact emod_add_congr (putO_at t P Q d hu i) rfl
theorem putL_at {m : Int} (t : Nat → Nat → Int) (a b : List Int) (d : Nat) {u : Nat} (hu : u ≤ d) : at' (putL m t a b d) u % m = sm (d + 1) (fun i => sm (d + 1 - i) (fun j => t i j * cv (at' (pwS m a d i)) (at' (pwS m b d j)) u)) % m := putO_at _ _ _ _ hu _
def linL (n : Nat) : List Int := (List.replicate n (0 : Int)).set 1 1
theorem linL_length (n : Nat) : (linL n).length = n := by rw [linL, List.length_set, List.length_replicate]
theorem at_linL {n u : Nat} (h : u < n) : at' (linL n) u = if u = 1 then 1 else 0 := by
  rw [linL, at', List.getD_eq_getElem?_getD, List.getElem?_set]
  by_cases e : 1 = u
  · subst e
    rw [if_pos rfl, if_pos rfl, if_pos (by rw [List.length_replicate]; exact h)]
    rfl
  · rw [if_neg e, if_neg (fun h => e h.symm), List.getElem?_replicate, if_pos h]
    rfl
theorem linL_num {m : Int} (hm : 1 < m) (n : Nat) : ∀ x ∈ linL n, 0 ≤ x ∧ x < m := by
  intro x hx
  rcases List.mem_or_eq_of_mem_set hx with h | h
  · have := (List.mem_replicate.1 h).2; omega
  · omega
def monF (i u : Nat) : Int := if u = i then 1 else 0
theorem cv_mon (i : Nat) (f : Nat → Int) (u : Nat) : cv (monF i) f u = if i ≤ u then f (u - i) else 0 := by
  by_cases h : i ≤ u
  · rw [if_pos h, cv, sm_one (p := i) (by omega) (fun j _ hj => by rw [monF, if_neg hj, Int.zero_mul]), monF, if_pos rfl, Int.one_mul]
  · rw [if_neg h]
    exact sm_zero fun j hj => by rw [monF, if_neg (by omega), Int.zero_mul]
theorem pw_lin {m : Int} (hm : 1 < m) (d : Nat) : ∀ i u, u ≤ d → at' (pwS m (linL (d + 1)) d i) u % m = monF i u % m
  | 0, u, hu => by rw [pwS, at_oneL d u hu]; rfl
  | i + 1, u, hu => by
    rw [pwS, at_times hu, cv_mod (fun j hj => pw_lin hm d i j (by omega)) (fun j _ => rfl), cv_mon]
    by_cases h : i ≤ u
    · rw [if_pos h, at_linL (by omega), monF]
      by_cases e : u = i + 1
      · rw [if_pos e, if_pos (by omega)]
      · rw [if_neg e, if_neg (by omega)]
    · rw [if_neg h, monF, if_neg (by omega)]
theorem put_lin {m : Int} (hm : 1 < m) (t : Nat → Nat → Int) (d : Nat) {u : Nat} (hu : u ≤ d) : at' (putL m t (linL (d + 1)) (linL (d + 1)) d) u % m = dg t u % m := by
  rw [putL_at t _ _ d hu]
  have h1 : ∀ i j, cv (at' (pwS m (linL (d + 1)) d i)) (at' (pwS m (linL (d + 1)) d j)) u % m = monF (i + j) u % m := fun i j => by
    rw [cv_mod (fun k hk => pw_lin hm d i k (by omega)) (fun k hk => pw_lin hm d j k (by omega)), cv_mon]
    by_cases h : i ≤ u
    · rw [if_pos h, monF, monF]
      by_cases e : u = i + j
      · rw [if_pos e, if_pos (by omega)]
      · rw [if_neg e, if_neg (by omega)]
    · rw [if_neg h, monF, if_neg (by omega)]
  rw [sm_emod fun i hi => sm_emod fun j hj => emod_mul_congr rfl (h1 i j)]
  refine congrArg (· % m) ?_
  have h2 : ∀ i, i < d + 1 → sm (d + 1 - i) (fun j => t i j * monF (i + j) u) = if i < u + 1 then t i (u - i) else 0 := fun i hi => by
    by_cases h : i < u + 1
    · rw [if_pos h, sm_one (p := u - i) (by omega) (fun j _ hj => by rw [monF, if_neg (by omega), Int.mul_zero]), monF, if_pos (by omega), Int.mul_one]
    · rw [if_neg h]
      exact sm_zero fun j hj => by rw [monF, if_neg (by omega), Int.mul_zero]
  rw [sm_congr h2, sm_tail (c := u + 1) (by omega) (fun i h3 h4 => by rw [if_neg (by omega)])]
  exact sm_congr fun i hi => by rw [if_pos hi]
theorem bth_dg {m : Int} {d : Nat} (t : Nat → Nat → Int) (a b : List Int) {u : Nat} (hu : u ≤ d) : dg (pc (bthT m (d + 1) t (pwC m a d) (pwC m b d))) u % m = at' (putL m t a b d) u % m := by
  rw [putL_at t a b d hu]
  have h1 : dg (pc (bthT m (d + 1) t (pwC m a d) (pwC m b d))) u % m = dg (fun x y => sm (d + 1) (fun i => sm (d + 1 - i) (fun j => t i j * (pwC m a d i x * pwC m b d j y)))) u % m := dg_congr fun i hi => by
    rw [bthT, pc_tab2 (by omega), Int.emod_emod]
    show (sm (d + 1) _ + 0) % m = _
    rw [Int.add_zero]
  rw [h1]
  refine congrArg (· % m) ?_
  rw [dg, sm_swap]
  refine sm_congr fun i hi => ?_
  rw [sm_swap]
  refine sm_congr fun j hj => ?_
  rw [sm_mul]
  rfl
theorem eq_of_mod {x y m : Int} (hx : 0 ≤ x ∧ x < m) (hy : 0 ≤ y ∧ y < m) (h : x % m = y % m) : x = y := by
  rwa [Int.emod_eq_of_lt hx.1 hx.2, Int.emod_eq_of_lt hy.1 hy.2] at h
theorem list_of_mod {m : Int} {a b : List Int} {d : Nat} (ha : a.length = d + 1 ∧ ∀ x ∈ a, 0 ≤ x ∧ x < m) (hb : b.length = d + 1 ∧ ∀ x ∈ b, 0 ≤ x ∧ x < m) (hm : 0 < m) (h : ∀ u, u ≤ d → at' a u % m = at' b u % m) : a = b := by
  apply List.ext_getElem (by rw [ha.1, hb.1])
  intro i h1 h2
  have := eq_of_mod (at_bound ha.2 hm i) (at_bound hb.2 hm i) (h i (by omega))
  simpa [at', List.getD_eq_getElem?_getD, h1, h2] using this
theorem both_line {m : Int} (hm : 1 < m) {d : Nat} (t : Nat → Nat → Int) (a b : List Int) : putL m (pc (bthT m (d + 1) t (pwC m a d) (pwC m b d))) (linL (d + 1)) (linL (d + 1)) d = putL m t a b d :=
  list_of_mod (putL_facts (by omega) _ _ _ _) (putL_facts (by omega) _ _ _ _) (by omega) fun u hu => by rw [put_lin hm _ d hu, bth_dg t a b hu]
theorem axis_line {m : Int} (hm : 1 < m) {d : Nat} {a : List Int} (ha : a.length = d + 1 ∧ ∀ x ∈ a, 0 ≤ x ∧ x < m) : putL m (pc (tab2 (d + 1) (fun i j => if j = 0 then at' a i else 0))) (linL (d + 1)) (linL (d + 1)) d = a :=
  list_of_mod (putL_facts (by omega) _ _ _ _) ha (by omega) fun u hu => by
    rw [put_lin hm _ d hu]
    refine congrArg (· % m) ?_
    rw [dg, sm_one (p := u) (by omega) (fun j hj hne => by rw [pc_tab2 (by omega), if_neg (by omega)]), pc_tab2 (by omega), if_pos (by omega)]
theorem cmpL_at {m : Int} (a f : List Int) (d : Nat) : ∀ k, k ≤ d + 1 → ∀ u, u ≤ d → at' (cmpL m a f d k) u % m = sm k (fun i => at' a (d + 1 - k + i) * at' (pwS m f d i) u) % m
  | 0, _, u, hu => by rw [cmpL, at_tab (by omega)]; rfl
  | k + 1, hk, u, hu => by
    rw [cmpL, at_tab (by omega), Int.emod_emod, sm_succ_left, Int.add_comm]
    refine emod_add_congr ?_ ?_
    · rw [pwS, at_oneL d u hu, oneF, show d + 1 - (k + 1) + 0 = d - k by omega]
      split
      · rw [Int.emod_emod, Int.mul_one]
      · rw [Int.mul_zero]
    · rw [Int.emod_emod, cv_mod (fun j hj => cmpL_at a f d k (by omega) j (by omega)) (fun j _ => rfl)]
      have e : cv (fun j => sm k (fun i => at' a (d + 1 - k + i) * at' (pwS m f d i) j)) (at' f) u = sm k (fun i => at' a (d + 1 - k + i) * cv (at' (pwS m f d i)) (at' f) u) := by
        rw [cv]
        rw [sm_congr (fun j _ => (sm_mul_right k (at' f (u - j)) (fun i => at' a (d + 1 - k + i) * at' (pwS m f d i) j)).symm), sm_swap]
        refine sm_congr fun i _ => ?_
        rw [cv, ← sm_mul]
        exact sm_congr fun j _ => Int.mul_assoc _ _ _
      rw [e]
      refine sm_emod fun i hi => ?_
      rw [show d + 1 - (k + 1) + (i + 1) = d + 1 - k + i by omega]
      exact emod_mul_congr rfl (at_times hu).symm
theorem pwP_dg {m : Int} {d : Nat} {t : Nat → Nat → Int} {f : List Int} (hf : ∀ u, u ≤ d → at' f u % m = dg t u % m) : ∀ i u, u ≤ d → dg (pc (pwP m (d + 1) t i)) u % m = at' (pwS m f d i) u % m
  | 0, u, hu => by
    rw [pwS, at_oneL d u hu]
    have e : dg (pc (pwP m (d + 1) t 0)) u % m = dg (fun a b => if a = 0 ∧ b = 0 then 1 else 0) u % m := dg_congr fun i hi => by
      rw [pwP, numP, pc_tab2 (by omega)]
      split
      · rw [Int.emod_emod]
      · rfl
    rw [e]
    refine congrArg (· % m) ?_
    rw [dg, sm_one (p := 0) (by omega) (fun j hj hne => by rw [if_neg (by omega)]), oneF]
    by_cases h : u = 0
    · rw [if_pos h, if_pos (by omega)]
    · rw [if_neg h, if_neg (by omega)]
  | i + 1, u, hu => by
    have e : dg (pc (pwP m (d + 1) t (i + 1))) u % m = dg (cv2 (pc (pwP m (d + 1) t i)) t) u % m := dg_congr fun j hj => by
      rw [pwP, pmul, pc_tab2 (by omega), Int.emod_emod]
    rw [e, dg_cv2, pwS, at_times hu]
    exact cv_mod (fun j hj => pwP_dg hf i j (by omega)) (fun j hj => (hf j (by omega)).symm)
theorem apply_line {m : Int} (hm : 1 < m) {d : Nat} {t : Nat → Nat → Int} {c : List Int} (hc : c.length = d + 1) : cmpL m c (putL m t (linL (d + 1)) (linL (d + 1)) d) d (d + 1) = putL m (pc (aftL m (d + 1) t c c.length)) (linL (d + 1)) (linL (d + 1)) d :=
  list_of_mod ⟨cmpL_length _ _ _ _ _, cmpL_num (by omega) _ _ _ _⟩ (putL_facts (by omega) _ _ _ _) (by omega) fun u hu => by
    rw [put_lin hm _ d hu, cmpL_at _ _ _ _ (Nat.le_refl _) u hu]
    have e : dg (pc (aftL m (d + 1) t c c.length)) u % m = dg (fun x y => sm c.length (fun i => at' c i * pc (pwP m (d + 1) t i) x y)) u % m := dg_congr fun j hj => by
      rw [aftL_end (by omega) (by omega), Int.emod_emod]
    rw [e, dg, sm_swap, hc]
    refine sm_emod fun i hi => ?_
    rw [sm_mul, show d + 1 - (d + 1) + i = i by omega]
    exact emod_mul_congr rfl (pwP_dg (fun u hu => put_lin hm t d hu) i u hu).symm
end Go.Proofs.YtapdekacpecgiaaGreat

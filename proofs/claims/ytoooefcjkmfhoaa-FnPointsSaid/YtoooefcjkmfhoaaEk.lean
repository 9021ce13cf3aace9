/-
  The coefficient of Hasse.
-/
import Derived.Test.YtoooefcjkmfhoaaEd
import Derived.Test.YtoooefcjkmfhoaaLd
import Derived.Test.YtoooefcjkmfhoaaPa
namespace Go.Proofs.Ytoooefcjkmfhoaa
open Go.RowKit
set_option linter.unusedSimpArgs false
set_option linter.unusedVariables false
set_option linter.unusedSectionVars false
set_option maxRecDepth 20000
-- The coefficient of Hasse.
def cubL (a b : Int) : List Int := [b, a, 0, 1]
theorem cub0 (a b : Int) : at' (cubL a b) 0 = b := rfl
theorem cub1 (a b : Int) : at' (cubL a b) 1 = a := rfl
theorem cub2 (a b : Int) : at' (cubL a b) 2 = 0 := rfl
theorem cub3 (a b : Int) : at' (cubL a b) 3 = 1 := rfl
theorem cub4 (a b : Int) {n : Nat} (h : 4 ≤ n) : at' (cubL a b) n = 0 := at_out (by simpa [cubL] using h)
theorem cv_deg {f g : Nat → Int} {A B : Nat} (hf : ∀ n, A < n → f n = 0) (hg : ∀ n, B < n → g n = 0) (n : Nat) (h : A + B < n) : cv f g n = 0 := by
  unfold cv
  refine sm_zero fun i hi => ?_
  by_cases h1 : A < i
  · rw [hf i h1, Int.zero_mul]
  · rw [hg (n - i) (by omega), Int.mul_zero]
theorem cub_deg (a b : Int) (j : Nat) : ∀ n, 3 * j < n → pwF (at' (cubL a b)) j n = 0 := by
  induction j with
  | zero => intro n hn; simp only [pwF, oneF]; rw [if_neg (by omega)]
  | succ j ih => intro n hn; exact cv_deg (B := 3) ih (fun n hn => cub4 a b (by omega)) n (by omega)
def hasL (p a b : Int) : Nat → List Int
  | 0 => [1]
  | j + 1 => tab ((hasL p a b j).length + 3) (fun n => cv (at' (hasL p a b j)) (at' (cubL a b)) n % p)
theorem hasL_length (p a b : Int) (j : Nat) : (hasL p a b j).length = 3 * j + 1 := by
  induction j with
  | zero => rfl
  | succ j ih => simp only [hasL, tab_length, ih]; omega
theorem hasL_at {p : Int} (hp : 1 < p) (a b : Int) (j : Nat) : ∀ n, at' (hasL p a b j) n = pwF (at' (cubL a b)) j n % p := by
  induction j with
  | zero =>
    intro n
    simp only [hasL, pwF, oneF]
    by_cases h : n = 0
    · subst h; rw [if_pos rfl, Int.emod_eq_of_lt (by omega) hp]; rfl
    · rw [if_neg h, at_out (by simp; omega)]; simp
  | succ j ih =>
    intro n
    by_cases h : n < 3 * (j + 1) + 1
    · simp only [hasL]
      rw [at_tab (n := (hasL p a b j).length + 3) (by rw [hasL_length]; omega)]
      simp only [pwF]
      have : eqm p n (cv (at' (hasL p a b j)) (at' (cubL a b))) (cv (pwF (at' (cubL a b)) j) (at' (cubL a b))) :=
        eqm.cv (fun i _ => by rw [ih, Int.emod_emod]) eqm.rfl'
      exact this n (Nat.le_refl _)
    · rw [at_out (by rw [hasL_length]; omega), cub_deg a b (j + 1) n (by omega)]; simp
theorem hasL_num {p : Int} (hp : 1 < p) (a b : Int) (j : Nat) : ∀ x ∈ hasL p a b j, 0 ≤ x ∧ x < p := by
  intro x hx
  cases j with
  | zero => simp [hasL] at hx; omega
  | succ j =>
    obtain ⟨i, _, rfl⟩ := mem_tab.1 hx
    exact emod_b _ p (by omega)
def hasseR (p a b : Int) : Int := if codeE p a b = 0 then pwF (at' (cubL a b)) ((p.toNat - 1) / 2) (p.toNat - 1) % p else 0
theorem hasse_at {q : Nat} {a b : Int} (hq : 5 ≤ q) (l : List Int) (h : ∀ x ∈ l, 0 ≤ x ∧ x < (q : Int)) (h2 : eqm (q : Int) (q - 1) (at' l) (pwF (at' (cubL a b)) ((q - 1) / 2))) (hc : codeE (q : Int) a b = 0) : at' l (q - 1) = hasseR (q : Int) a b := by
  have h1 := at_bound h (by omega) (q - 1)
  have h3 := h2 (q - 1) (Nat.le_refl _)
  rw [Int.emod_eq_of_lt h1.1 h1.2] at h3
  simp only [hasseR, hc, if_true, Int.toNat_natCast]
  exact h3
set_option maxHeartbeats 1000000 in
theorem c_spec_l18Hasse (q : Nat) (a b : Int) (h : codeE (q : Int) a b = 0) : AFn Try.prog 42 [.int .i64 (q : Int), .int .i64 a, .int .i64 b] (.int .i64 (hasseR (q : Int) a b)) := by
  refine AFn.of' ttOk (by decide) Try.func42 Try.ntmps42 (by rw [Try.results42]) (by rfl) (by rfl) (by simp) (by decide) (by simp only [go_sem, Nat.reduceAdd, ↓reduceIte]; rfl) mixed (fun C hP hM hC => ?_)
  obtain ⟨h5, h97, ha, ha2, hb, hb2⟩ := CurveOk.of h
  have hk : ((q : Int) - 1).tdiv 2 = (((q - 1) / 2 : Nat) : Int) := by rw [Int.tdiv_eq_ediv_of_nonneg (by omega)]; omega
  have hq1 : (q : Int) - 1 = ((q - 1 : Nat) : Int) := by omega
  have hnum : ∀ x ∈ cubL a b, 0 ≤ x ∧ x < (q : Int) := by
    intro x hx
    simp only [cubL, List.mem_cons, List.not_mem_nil, or_false] at hx
    rcases hx with rfl | rfl | rfl | rfl <;> omega
  have hA := c_spec_l02Power (q : Int) (cubL a b) ((q - 1) / 2) (q - 1) (by omega) (by omega) hnum (by simp [cubL]) (by omega) (by omega)
  have hlen := powL_length (m := (q : Int)) (by omega) (cubL a b) ((q - 1) / 2) (q - 1)
  have hn2 := powL_num (m := (q : Int)) (by omega) (cubL a b) ((q - 1) / 2) (q - 1)
  have hv := hasse_at (by omega) _ hn2 (eqm_pow (q : Int) (cubL a b) ((q - 1) / 2) (q - 1)) h
  have hlt : q - 1 < (powL (q : Int) (cubL a b) ((q - 1) / 2) (q - 1)).length := by rw [hlen]; omega
  generalize powL (q : Int) (cubL a b) ((q - 1) / 2) (q - 1) = l at hA hlen hv hlt
  (repeat (first | ((with_reducible refine rgn_cons rfl (fun K hK => ?_)); simp only [go_sem, seval, ↓reduceIte, decide_true, decide_false, nat_tdiv2, hq1, widN (q - 1) (by omega), widN ((q - 1) / 2) (by omega), show (2 : Int) ≠ 0 by omega, hlen, Int.toNat_natCast, Int.natCast_nonneg, show ((q - 1 : Nat) : Int) < ((q - 1 + 1 : Nat) : Int) by omega, Nat.mul_one, intL_get l (q - 1) hlt, sizeL_take l (q - 1) (Nat.le_of_lt hlt), show l.getD (q - 1) 0 = at' l (q - 1) from rfl, hv]; (first | refine hK _ _ _ (by simp only [go_sem, Nat.reduceEqDiff, ↓reduceIte]; rfl) ?_ | refine ⟨_, hA, hK _ _ _ (by simp only [go_sem, Nat.reduceEqDiff, ↓reduceIte]; rfl) ?_⟩); clear hK; clear K) | (with_reducible first | refine rgn_nil (by first | trivial | kernel_rfl) ?_ | refine AWP.seq ?_ | refine tX hC hP (by kernel_rfl) ?_ | refine aX hC hM hP (by kernel_rfl) ?_ | refine AWP.skip ?_ | refine AWP.label ?_ | refine AWP.exit ?_ | refine AWP.block ?_ | refine cTa ?_ | refine cFa ?_) | simp only [qS, Nat.reduceEqDiff, ↓reduceIte]))
  (refine AWP.ret ?_; refine retOk1 (by simp only [go_sem, seval, ↓reduceIte, decide_true, decide_false]; rfl) ?_)
  rfl
theorem has_end {p a b : Int} {o : List Int} {L : Nat} : tab L (pr (at' o) (at' (cubL a b)) p o.length) = tab L (fun n => cv (at' o) (at' (cubL a b)) n % p) :=
  tab_congr fun n _ => pr_end fun j hj _ => at_out hj
theorem has_step {p a b : Int} {o : List Int} {c n : Nat} : (if n = c + 3 then pr (at' o) (at' (cubL a b)) p (c + 1) (c + 3) else if n = c + 1 then pr (at' o) (at' (cubL a b)) p (c + 1) (c + 1) else if n = c then pr (at' o) (at' (cubL a b)) p (c + 1) c else pr (at' o) (at' (cubL a b)) p c n) = pr (at' o) (at' (cubL a b)) p (c + 1) n := by
  split
  · rename_i h; rw [h]
  · split
    · rename_i h; rw [h]
    · split
      · rename_i h; rw [h]
      · rename_i h1 h2 h3
        rw [pr_same]
        intro h4
        by_cases h5 : n - c = 2
        · rw [h5, cub2, Int.mul_zero]
        · rw [cub4 a b (by omega), Int.mul_zero]
set_option maxHeartbeats 2000000 in
theorem c_impl_elliptic_hasse (q : Nat) (a b : Int) (h : codeE (q : Int) a b = 0) : AFn Try.prog 41 [.agg [.int .i64 (q : Int), .int .i64 a, .int .i64 b]] (.int .i64 (hasseR (q : Int) a b)) := by
  refine AFn.of' ttOk (by decide) Try.func41 Try.ntmps41 (by rw [Try.results41]) (by rfl) (by rfl) (by simp) (by decide) (by simp only [go_sem, Nat.reduceAdd, ↓reduceIte]; rfl) mixed (fun C hP hM hC => ?_)
  obtain ⟨h5, h97, ha, ha2, hb, hb2⟩ := CurveOk.of h
  have hq1 : (q : Int) - 1 = ((q - 1 : Nat) : Int) := by omega
  (repeat (first | ((with_reducible refine rgn_cons rfl (fun K hK => ?_)); simp only [go_sem, seval, ↓reduceIte, decide_true, decide_false, nat_tdiv2, hq1, widN (q - 1) (by omega), widN ((q - 1) / 2) (by omega), show (2 : Int) ≠ 0 by omega]; (refine hK _ _ _ (by simp only [go_sem, Nat.reduceEqDiff, ↓reduceIte]; rfl) ?_); clear hK; clear K) | (with_reducible first | refine rgn_nil (by first | trivial | kernel_rfl) ?_ | refine AWP.seq ?_ | refine tX hC hP (by kernel_rfl) ?_ | refine aX hC hM hP (by kernel_rfl) ?_ | refine AWP.skip ?_ | refine AWP.label ?_ | refine AWP.exit ?_ | refine AWP.block ?_ | refine cTa ?_ | refine cFa ?_) | simp only [qS, Nat.reduceEqDiff, ↓reduceIte]))
  refine AWP.loop (fun w : Nat × Nat => [(12, ⟨0, .val (.int .i64 w.1)⟩), (11, ⟨0, .val (.int .i64 ((q - 1) / 2 : Nat))⟩), (3, ⟨w.2, .own (.sl true 2 (intL (hasL (q : Int) a b w.1)))⟩), (1, ⟨1, .own (.box 56 (.agg [.int .i64 (q : Int), .int .i64 a, .int .i64 b]))⟩)]) (fun w => w.1 ≤ (q - 1) / 2) (fun w => (q - 1) / 2 - w.1) (0, 1) (Nat.zero_le _) (fun i => rfl) ?_ (fun w hw => ?_)
  · simp [Sub, lk, hasL, intL]
  · obtain ⟨j, v⟩ := w
    simp only at hw ⊢
    by_cases hj : j < (q - 1) / 2
    · have hol := hasL_length (q : Int) a b j
      have hon := hasL_num (p := (q : Int)) (by omega) a b j
      have hst : hasL (q : Int) a b (j + 1) = tab ((hasL (q : Int) a b j).length + 3) (fun n => cv (at' (hasL (q : Int) a b j)) (at' (cubL a b)) n % (q : Int)) := rfl
      generalize hasL (q : Int) a b j = o at hol hon hst ⊢
      (repeat (first | ((with_reducible refine rgn_cons rfl (fun K hK => ?_)); simp only [go_sem, seval, ↓reduceIte, decide_true, decide_false, show (j : Int) < (((q - 1) / 2 : Nat) : Int) by omega, wid ((o.length : Int) + 3) (by omega) (by omega), show (0 : Int) ≤ (o.length : Int) + 3 by omega, show ((o.length : Int) + 3).toNat = o.length + 3 by omega, show (o.length : Int) + 3 ≤ 1099511627776 by omega, intL_replicate, tab_zero]; (refine hK _ _ _ (by simp only [go_sem, Nat.reduceEqDiff, ↓reduceIte]; rfl) ?_); clear hK; clear K) | (with_reducible first | refine rgn_nil (by first | trivial | kernel_rfl) ?_ | refine AWP.seq ?_ | refine tX hC hP (by kernel_rfl) ?_ | refine aX hC hM hP (by kernel_rfl) ?_ | refine AWP.skip ?_ | refine AWP.label ?_ | refine AWP.exit ?_ | refine AWP.block ?_ | refine cTa ?_ | refine cFa ?_) | simp only [qS, Nat.reduceEqDiff, ↓reduceIte]))
      refine AWP.loop (fun c : Nat => [(20, ⟨0, .val (.int .i64 c)⟩), (19, ⟨0, .val (.int .i64 o.length)⟩), (18, ⟨0, .val (.ref 3 v [])⟩), (4, ⟨1, .own (.sl true 2 (intL (tab (o.length + 3) (pr (at' o) (at' (cubL a b)) (q : Int) c))))⟩), (3, ⟨v, .own (.sl true 2 (intL o))⟩), (12, ⟨0, .val (.int .i64 j)⟩), (11, ⟨0, .val (.int .i64 ((q - 1) / 2 : Nat))⟩), (1, ⟨1, .own (.box 56 (.agg [.int .i64 (q : Int), .int .i64 a, .int .i64 b]))⟩)]) (fun c => c ≤ o.length) (fun c => o.length - c) 0 (Nat.zero_le _) (fun i => rfl) ?_ (fun c hc => ?_)
      · have e : tab (o.length + 3) (pr (at' o) (at' (cubL a b)) (q : Int) 0) = tab (o.length + 3) (fun _ => 0) := tab_congr fun j _ => pr_zero _ _ _ _
        simp [Sub, lk, e]
      · by_cases hc2 : c < o.length
        · have hx := at_bound hon (by omega) c
          have p0 := pr_bound (at' o) (at' (cubL a b)) (show (0 : Int) < (q : Int) by omega) c c
          have p1 := pr_bound (at' o) (at' (cubL a b)) (show (0 : Int) < (q : Int) by omega) c (c + 1)
          have p3 := pr_bound (at' o) (at' (cubL a b)) (show (0 : Int) < (q : Int) by omega) c (c + 3)
          have mb := small_mul h97 hx.1 hx.2 hb hb2
          have ma := small_mul h97 hx.1 hx.2 ha ha2
          have s0 : (pr (at' o) (at' (cubL a b)) (q : Int) c c + at' o c * b) % (q : Int) = pr (at' o) (at' (cubL a b)) (q : Int) (c + 1) c := pr_succ (at' o) (at' (cubL a b)) (q : Int) c 0
          have s1 : (pr (at' o) (at' (cubL a b)) (q : Int) c (c + 1) + at' o c * a) % (q : Int) = pr (at' o) (at' (cubL a b)) (q : Int) (c + 1) (c + 1) := pr_succ (at' o) (at' (cubL a b)) (q : Int) c 1
          have s3 : (pr (at' o) (at' (cubL a b)) (q : Int) c (c + 3) + at' o c) % (q : Int) = pr (at' o) (at' (cubL a b)) (q : Int) (c + 1) (c + 3) := by
            have := pr_succ (at' o) (at' (cubL a b)) (q : Int) c 3
            rwa [cub3, Int.mul_one] at this
          have t1 : (tab (o.length + 3) (pr (at' o) (at' (cubL a b)) (q : Int) c)).set c (pr (at' o) (at' (cubL a b)) (q : Int) (c + 1) c) = tab (o.length + 3) (fun n => if n = c then pr (at' o) (at' (cubL a b)) (q : Int) (c + 1) c else pr (at' o) (at' (cubL a b)) (q : Int) c n) := tab_set
          have t2 : (tab (o.length + 3) (fun n => if n = c then pr (at' o) (at' (cubL a b)) (q : Int) (c + 1) c else pr (at' o) (at' (cubL a b)) (q : Int) c n)).set (c + 1) (pr (at' o) (at' (cubL a b)) (q : Int) (c + 1) (c + 1)) = tab (o.length + 3) (fun n => if n = c + 1 then pr (at' o) (at' (cubL a b)) (q : Int) (c + 1) (c + 1) else if n = c then pr (at' o) (at' (cubL a b)) (q : Int) (c + 1) c else pr (at' o) (at' (cubL a b)) (q : Int) c n) := tab_set
          have t3 : (tab (o.length + 3) (fun n => if n = c + 1 then pr (at' o) (at' (cubL a b)) (q : Int) (c + 1) (c + 1) else if n = c then pr (at' o) (at' (cubL a b)) (q : Int) (c + 1) c else pr (at' o) (at' (cubL a b)) (q : Int) c n)).set (c + 3) (pr (at' o) (at' (cubL a b)) (q : Int) (c + 1) (c + 3)) = tab (o.length + 3) (pr (at' o) (at' (cubL a b)) (q : Int) (c + 1)) := tab_set' fun n _ => has_step
          have g0 : (intL (tab (o.length + 3) (pr (at' o) (at' (cubL a b)) (q : Int) c)))[c]? = some (.int .i64 (pr (at' o) (at' (cubL a b)) (q : Int) c c)) := by
            rw [intL_get _ c (by rw [tab_length]; omega), tab_getD (by omega)]
          have g1 : (intL (tab (o.length + 3) (fun n => if n = c then pr (at' o) (at' (cubL a b)) (q : Int) (c + 1) c else pr (at' o) (at' (cubL a b)) (q : Int) c n)))[c + 1]? = some (.int .i64 (pr (at' o) (at' (cubL a b)) (q : Int) c (c + 1))) := by
            rw [intL_get _ (c + 1) (by rw [tab_length]; omega), tab_getD (by omega), if_neg (by omega)]
          have g3 : (intL (tab (o.length + 3) (fun n => if n = c + 1 then pr (at' o) (at' (cubL a b)) (q : Int) (c + 1) (c + 1) else if n = c then pr (at' o) (at' (cubL a b)) (q : Int) (c + 1) c else pr (at' o) (at' (cubL a b)) (q : Int) c n)))[c + 3]? = some (.int .i64 (pr (at' o) (at' (cubL a b)) (q : Int) c (c + 3))) := by
            rw [intL_get _ (c + 3) (by rw [tab_length]; omega), tab_getD (by omega), if_neg (by omega), if_neg (by omega)]
          have z0 : ∀ f : Nat → Int, T.sizeL ((intL (tab (o.length + 3) f)).take c) = c := fun f => sizeL_take _ c (by rw [tab_length]; omega)
          have z1 : ∀ f : Nat → Int, T.sizeL ((intL (tab (o.length + 3) f)).take (c + 1)) = c + 1 := fun f => sizeL_take _ (c + 1) (by rw [tab_length]; omega)
          have z3 : ∀ f : Nat → Int, T.sizeL ((intL (tab (o.length + 3) f)).take (c + 3)) = c + 3 := fun f => sizeL_take _ (c + 3) (by rw [tab_length]; omega)
          (repeat (first | ((with_reducible refine rgn_cons rfl (fun K hK => ?_)); simp only [go_sem, seval, ↓reduceIte, decide_true, decide_false, show (c : Int) < (o.length : Int) by omega, Int.toNat_natCast, Int.natCast_nonneg, Nat.mul_one, intL_get o c hc2, sizeL_take o c (Nat.le_of_lt hc2), show o.getD c 0 = at' o c from rfl, tab_length, show (c : Int) < ((o.length + 3 : Nat) : Int) by omega, g0, g1, g3, z0, z1, z3, intL_modify, wid (at' o c * b) (by omega) (by omega), wid (at' o c * a) (by omega) (by omega), wid (pr (at' o) (at' (cubL a b)) (q : Int) c c + at' o c * b) (by omega) (by omega), wid (pr (at' o) (at' (cubL a b)) (q : Int) c (c + 1) + at' o c * a) (by omega) (by omega), wid (pr (at' o) (at' (cubL a b)) (q : Int) c (c + 3) + at' o c) (by omega) (by omega), show (q : Int) ≠ 0 by omega, tm (pr (at' o) (at' (cubL a b)) (q : Int) c c + at' o c * b) (q : Int) (by omega), tm (pr (at' o) (at' (cubL a b)) (q : Int) c (c + 1) + at' o c * a) (q : Int) (by omega), tm (pr (at' o) (at' (cubL a b)) (q : Int) c (c + 3) + at' o c) (q : Int) (by omega), s0, s1, s3, t1, t2, t3, wid ((c : Int) + 1) (by omega) (by omega), wid ((c : Int) + 3) (by omega) (by omega), show ((c : Int) + 1).toNat = c + 1 by omega, show ((c : Int) + 3).toNat = c + 3 by omega, show (0 : Int) ≤ (c : Int) + 1 by omega, show (0 : Int) ≤ (c : Int) + 3 by omega, show (c : Int) + 1 < ((o.length + 3 : Nat) : Int) by omega, show (c : Int) + 3 < ((o.length + 3 : Nat) : Int) by omega]; (refine hK _ _ _ (by simp only [go_sem, Nat.reduceEqDiff, ↓reduceIte]; rfl) ?_); clear hK; clear K) | (with_reducible first | refine rgn_nil (by first | trivial | kernel_rfl) ?_ | refine AWP.seq ?_ | refine tX hC hP (by kernel_rfl) ?_ | refine aX hC hM hP (by kernel_rfl) ?_ | refine AWP.skip ?_ | refine AWP.label ?_ | refine AWP.exit ?_ | refine AWP.block ?_ | refine cTa ?_ | refine cFa ?_) | simp only [qS, Nat.reduceEqDiff, ↓reduceIte]))
          exact ⟨c + 1, by omega, by omega, by simp [Sub, lk]⟩
        · have hce : c = o.length := by omega
          (repeat (first | ((with_reducible refine rgn_cons rfl (fun K hK => ?_)); simp only [go_sem, seval, ↓reduceIte, decide_true, decide_false, show ¬ (c : Int) < (o.length : Int) by omega, decide_false, wid ((j : Int) + 1) (by omega) (by omega)]; (refine hK _ _ _ (by simp only [go_sem, Nat.reduceEqDiff, ↓reduceIte]; rfl) ?_); clear hK; clear K) | (with_reducible first | refine rgn_nil (by first | trivial | kernel_rfl) ?_ | refine AWP.seq ?_ | refine tX hC hP (by kernel_rfl) ?_ | refine aX hC hM hP (by kernel_rfl) ?_ | refine AWP.skip ?_ | refine AWP.label ?_ | refine AWP.exit ?_ | refine AWP.block ?_ | refine cTa ?_ | refine cFa ?_) | simp only [qS, Nat.reduceEqDiff, ↓reduceIte]))
          exact ⟨(j + 1, v + 1), by simp only; omega, by simp only; omega, by simp [Sub, lk, hst, hce, has_end]⟩
    · have hje : j = (q - 1) / 2 := by omega
      have hon := hasL_num (p := (q : Int)) (by omega) a b j
      have hol := hasL_length (q : Int) a b j
      have hv := hasse_at (by omega) _ hon (fun n _ => by rw [hasL_at (by omega), Int.emod_emod, hje]) h
      generalize hasL (q : Int) a b j = o at hol hon hv ⊢
      have hlt : q - 1 < o.length := by omega
      (repeat (first | ((with_reducible refine rgn_cons rfl (fun K hK => ?_)); simp only [go_sem, seval, ↓reduceIte, decide_true, decide_false, show ¬ (j : Int) < (((q - 1) / 2 : Nat) : Int) by omega, decide_false, hq1, widN (q - 1) (by omega), Int.toNat_natCast, Int.natCast_nonneg, show ((q - 1 : Nat) : Int) < (o.length : Int) by omega, Nat.mul_one, intL_get o (q - 1) hlt, sizeL_take o (q - 1) (Nat.le_of_lt hlt), show o.getD (q - 1) 0 = at' o (q - 1) from rfl, hv]; (refine hK _ _ _ (by simp only [go_sem, Nat.reduceEqDiff, ↓reduceIte]; rfl) ?_); clear hK; clear K) | (with_reducible first | refine rgn_nil (by first | trivial | kernel_rfl) ?_ | refine AWP.seq ?_ | refine tX hC hP (by kernel_rfl) ?_ | refine aX hC hM hP (by kernel_rfl) ?_ | refine AWP.skip ?_ | refine AWP.label ?_ | refine AWP.exit ?_ | refine AWP.block ?_ | refine cTa ?_ | refine cFa ?_) | simp only [qS, Nat.reduceEqDiff, ↓reduceIte]))
      (refine AWP.ret ?_; refine retOk1 (by simp only [go_sem, seval, ↓reduceIte, decide_true, decide_false]; rfl) ?_)
      rfl
set_option maxHeartbeats 1000000 in
theorem c_spec_HasseCoefficient (p a b : Int) : AFn Try.prog 10 [.int .i64 p, .int .i64 a, .int .i64 b] (.tup [.int .i64 (hasseR p a b), .int .i64 (codeE p a b)]) := by
  refine AFn.of' ttOk (by decide) Try.func10 Try.ntmps10 (by rw [Try.results10]) (by rfl) (by rfl) (by simp) (by decide) (by simp only [go_sem, Nat.reduceAdd, ↓reduceIte]; rfl) mixed (fun C hP hM hC => ?_)
  by_cases hc : codeE p a b = 0
  · obtain ⟨q, rfl⟩ := Int.eq_ofNat_of_zero_le (show 0 ≤ p by have := (CurveOk.of hc).h5; omega)
    (repeat (first | ((with_reducible refine rgn_cons rfl (fun K hK => ?_)); simp only [go_sem, seval, ↓reduceIte, decide_true, decide_false, hc]; (first | refine hK _ _ _ (by simp only [go_sem, Nat.reduceEqDiff, ↓reduceIte]; rfl) ?_ | refine ⟨_, c_spec_l18Code (q : Int) a b, hK _ _ _ (by simp only [go_sem, Nat.reduceEqDiff, ↓reduceIte]; rfl) ?_⟩ | refine ⟨_, c_spec_l18Hasse q a b hc, hK _ _ _ (by simp only [go_sem, Nat.reduceEqDiff, ↓reduceIte]; rfl) ?_⟩); clear hK; clear K) | (with_reducible first | refine rgn_nil (by first | trivial | kernel_rfl) ?_ | refine AWP.seq ?_ | refine tX hC hP (by kernel_rfl) ?_ | refine aX hC hM hP (by kernel_rfl) ?_ | refine AWP.skip ?_ | refine AWP.label ?_ | refine AWP.exit ?_ | refine AWP.block ?_ | refine cTa ?_ | refine cFa ?_) | simp only [qS, Nat.reduceEqDiff, ↓reduceIte]))
    (refine AWP.ret ?_; refine retOk2 (by simp only [go_sem, seval, ↓reduceIte, decide_true, decide_false]; rfl) (by simp only [go_sem, seval, ↓reduceIte, decide_true, decide_false]; rfl) (by simp) ?_)
    rw [hc]
  · (repeat (first | ((with_reducible refine rgn_cons rfl (fun K hK => ?_)); simp only [go_sem, seval, ↓reduceIte, decide_true, decide_false, show (codeE p a b != 0) = true by simpa using hc]; (first | refine hK _ _ _ (by simp only [go_sem, Nat.reduceEqDiff, ↓reduceIte]; rfl) ?_ | refine ⟨_, c_spec_l18Code p a b, hK _ _ _ (by simp only [go_sem, Nat.reduceEqDiff, ↓reduceIte]; rfl) ?_⟩); clear hK; clear K) | (with_reducible first | refine rgn_nil (by first | trivial | kernel_rfl) ?_ | refine AWP.seq ?_ | refine tX hC hP (by kernel_rfl) ?_ | refine aX hC hM hP (by kernel_rfl) ?_ | refine AWP.skip ?_ | refine AWP.label ?_ | refine AWP.exit ?_ | refine AWP.block ?_ | refine cTa ?_ | refine cFa ?_) | simp only [qS, Nat.reduceEqDiff, ↓reduceIte]))
    (refine AWP.ret ?_; refine retOk2 (by simp only [go_sem, seval, ↓reduceIte, decide_true, decide_false]; rfl) (by simp only [go_sem, seval, ↓reduceIte, decide_true, decide_false]; rfl) (by simp) ?_)
    simp [hasseR, hc]
set_option maxHeartbeats 1000000 in
theorem c_impl_HasseCoefficient (p a b : Int) : AFn Try.prog 9 [.int .i64 p, .int .i64 a, .int .i64 b] (.tup [.int .i64 (hasseR p a b), .int .i64 (codeE p a b)]) := by
  refine AFn.of' ttOk (by decide) Try.func9 Try.ntmps9 (by rw [Try.results9]) (by rfl) (by rfl) (by simp) (by decide) (by simp only [go_sem, Nat.reduceAdd, ↓reduceIte]; rfl) mixed (fun C hP hM hC => ?_)
  by_cases hc : codeE p a b = 0
  · obtain ⟨q, rfl⟩ := Int.eq_ofNat_of_zero_le (show 0 ≤ p by have := (CurveOk.of hc).h5; omega)
    (repeat (first | ((with_reducible refine rgn_cons rfl (fun K hK => ?_)); simp only [go_sem, seval, ↓reduceIte, decide_true, decide_false, hc]; (first | refine hK _ _ _ (by simp only [go_sem, Nat.reduceEqDiff, ↓reduceIte]; rfl) ?_ | refine ⟨_, c_impl_curveAt_nil (q : Int) a b, hK _ _ _ (by simp only [go_sem, Nat.reduceEqDiff, ↓reduceIte]; rfl) ?_⟩ | refine ⟨_, c_impl_elliptic_hasse q a b hc, hK _ _ _ (by simp only [go_sem, Nat.reduceEqDiff, ↓reduceIte]; rfl) ?_⟩); clear hK; clear K) | (with_reducible first | refine rgn_nil (by first | trivial | kernel_rfl) ?_ | refine AWP.seq ?_ | refine tX hC hP (by kernel_rfl) ?_ | refine aX hC hM hP (by kernel_rfl) ?_ | refine AWP.skip ?_ | refine AWP.label ?_ | refine AWP.exit ?_ | refine AWP.block ?_ | refine cTa ?_ | refine cFa ?_) | simp only [qS, Nat.reduceEqDiff, ↓reduceIte]))
    (refine AWP.ret ?_; refine retOk2 (by simp only [go_sem, seval, ↓reduceIte, decide_true, decide_false]; rfl) (by simp only [go_sem, seval, ↓reduceIte, decide_true, decide_false]; rfl) (by simp) ?_)
    rw [hc]
  · (repeat (first | ((with_reducible refine rgn_cons rfl (fun K hK => ?_)); simp only [go_sem, seval, ↓reduceIte, decide_true, decide_false, show (codeE p a b != 0) = true by simpa using hc]; (first | refine hK _ _ _ (by simp only [go_sem, Nat.reduceEqDiff, ↓reduceIte]; rfl) ?_ | refine ⟨_, c_impl_curveAt_nil p a b, hK _ _ _ (by simp only [go_sem, Nat.reduceEqDiff, ↓reduceIte]; rfl) ?_⟩); clear hK; clear K) | (with_reducible first | refine rgn_nil (by first | trivial | kernel_rfl) ?_ | refine AWP.seq ?_ | refine tX hC hP (by kernel_rfl) ?_ | refine aX hC hM hP (by kernel_rfl) ?_ | refine AWP.skip ?_ | refine AWP.label ?_ | refine AWP.exit ?_ | refine AWP.block ?_ | refine cTa ?_ | refine cFa ?_) | simp only [qS, Nat.reduceEqDiff, ↓reduceIte]))
    (refine AWP.ret ?_; refine retOk2 (by simp only [go_sem, seval, ↓reduceIte, decide_true, decide_false]; rfl) (by simp only [go_sem, seval, ↓reduceIte, decide_true, decide_false]; rfl) (by simp) ?_)
    simp [hasseR, hc]
def superR (p a b : Int) : Bool := decide (codeE p a b = 0) && (hasseR p a b == 0)
set_option maxHeartbeats 1000000 in
theorem c_impl_IsSupersingular (p a b : Int) : AFn Try.prog 17 [.int .i64 p, .int .i64 a, .int .i64 b] (.tup [.bool (superR p a b), .int .i64 (codeE p a b)]) := by
  refine AFn.of' ttOk (by decide) Try.func17 Try.ntmps17 (by rw [Try.results17]) (by rfl) (by rfl) (by simp) (by decide) (by simp only [go_sem, Nat.reduceAdd, ↓reduceIte]; rfl) mixed (fun C hP hM hC => ?_)
  by_cases hc : codeE p a b = 0
  · obtain ⟨q, rfl⟩ := Int.eq_ofNat_of_zero_le (show 0 ≤ p by have := (CurveOk.of hc).h5; omega)
    (repeat (first | ((with_reducible refine rgn_cons rfl (fun K hK => ?_)); simp only [go_sem, seval, ↓reduceIte, decide_true, decide_false, hc]; (first | refine hK _ _ _ (by simp only [go_sem, Nat.reduceEqDiff, ↓reduceIte]; rfl) ?_ | refine ⟨_, c_impl_curveAt_nil (q : Int) a b, hK _ _ _ (by simp only [go_sem, Nat.reduceEqDiff, ↓reduceIte]; rfl) ?_⟩ | refine ⟨_, c_impl_elliptic_hasse q a b hc, hK _ _ _ (by simp only [go_sem, Nat.reduceEqDiff, ↓reduceIte]; rfl) ?_⟩); clear hK; clear K) | (with_reducible first | refine rgn_nil (by first | trivial | kernel_rfl) ?_ | refine AWP.seq ?_ | refine tX hC hP (by kernel_rfl) ?_ | refine aX hC hM hP (by kernel_rfl) ?_ | refine AWP.skip ?_ | refine AWP.label ?_ | refine AWP.exit ?_ | refine AWP.block ?_ | refine cTa ?_ | refine cFa ?_) | simp only [qS, Nat.reduceEqDiff, ↓reduceIte]))
    (refine AWP.ret ?_; refine retOk2 (by simp only [go_sem, seval, ↓reduceIte, decide_true, decide_false]; rfl) (by simp only [go_sem, seval, ↓reduceIte, decide_true, decide_false]; rfl) (by simp) ?_)
    simp [superR, hc]
  · (repeat (first | ((with_reducible refine rgn_cons rfl (fun K hK => ?_)); simp only [go_sem, seval, ↓reduceIte, decide_true, decide_false, show (codeE p a b == 0) = false by simpa using hc]; (first | refine hK _ _ _ (by simp only [go_sem, Nat.reduceEqDiff, ↓reduceIte]; rfl) ?_ | refine ⟨_, c_impl_curveAt_nil p a b, hK _ _ _ (by simp only [go_sem, Nat.reduceEqDiff, ↓reduceIte]; rfl) ?_⟩); clear hK; clear K) | (with_reducible first | refine rgn_nil (by first | trivial | kernel_rfl) ?_ | refine AWP.seq ?_ | refine tX hC hP (by kernel_rfl) ?_ | refine aX hC hM hP (by kernel_rfl) ?_ | refine AWP.skip ?_ | refine AWP.label ?_ | refine AWP.exit ?_ | refine AWP.block ?_ | refine cTa ?_ | refine cFa ?_) | simp only [qS, Nat.reduceEqDiff, ↓reduceIte]))
    (refine AWP.ret ?_; refine retOk2 (by simp only [go_sem, seval, ↓reduceIte, decide_true, decide_false]; rfl) (by simp only [go_sem, seval, ↓reduceIte, decide_true, decide_false]; rfl) (by simp) ?_)
    simp [superR, hc]
end Go.Proofs.Ytoooefcjkmfhoaa

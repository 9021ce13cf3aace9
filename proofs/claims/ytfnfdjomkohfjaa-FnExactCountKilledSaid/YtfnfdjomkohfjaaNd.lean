/-
  The reference's numbers of points.
-/
import Derived.Test.YtfnfdjomkohfjaaNc
namespace Go.Proofs.Ytfnfdjomkohfjaa
open Go.RowKit
set_option linter.unusedSimpArgs false
set_option linter.unusedVariables false
set_option linter.unusedSectionVars false
set_option maxRecDepth 20000
-- The reference's numbers of points.
/-- A number's digits, the least first. -/
def dgL (M : Nat) : Nat → Nat → List Int
  | 0, _ => []
  | d + 1, v => ((v % M : Nat) : Int) :: dgL M d (v / M)
theorem dgL_length (M : Nat) : ∀ d v, (dgL M d v).length = d
  | 0, _ => rfl
  | d + 1, v => by rw [dgL, List.length_cons, dgL_length M d]
theorem dgL_b {M : Nat} (h : 1 ≤ M) : ∀ d v, ∀ z ∈ dgL M d v, 0 ≤ z ∧ z < (M : Int)
  | 0, _, z, hz => by simp [dgL] at hz
  | d + 1, v, z, hz => by
    rw [dgL] at hz
    rcases List.mem_cons.1 hz with e | e
    · have := Nat.mod_lt v (show 0 < M by omega); omega
    · exact dgL_b h d _ z e
theorem smC_add (a b : Nat) (f : Nat → Nat) : smC (a + b) f = smC a f + smC b (fun j => f (a + j)) := by
  induction b with
  | zero => simp [smC]
  | succ b ih => rw [← Nat.add_assoc, smC, ih, smC]; omega
theorem smC_mul (a b : Nat) (f : Nat → Nat) : smC (a * b) f = smC a (fun i => smC b (fun j => f (i * b + j))) := by
  induction a with
  | zero => simp [smC]
  | succ a ih => rw [Nat.succ_mul, smC_add, ih, smC]
theorem smC_plus (n : Nat) (f g : Nat → Nat) : smC n (fun i => f i + g i) = smC n f + smC n g := by
  induction n with
  | zero => rfl
  | succ n ih => rw [smC, smC, smC, ih]; omega
theorem smC_swap (a b : Nat) (f : Nat → Nat → Nat) : smC a (fun i => smC b (f i)) = smC b (fun j => smC a (fun i => f i j)) := by
  induction a with
  | zero =>
    have : ∀ b, smC b (fun _ => 0) = 0 := by
      intro b
      induction b with
      | zero => rfl
      | succ b ih => rw [smC, ih]
    simp only [smC]
    exact (this b).symm
  | succ a ih =>
    rw [smC, ih, ← smC_plus]
    exact smC_congr fun j _ => by rw [smC]
/-- Both ways to run through all tuples count the same. -/
theorem cvN_dg {M : Nat} (hM : 1 ≤ M) (Z : List Int → Bool) : ∀ d p, cvN M Z d p = smC (M ^ d) (fun v => if Z (p ++ dgL M d v) = true then 1 else 0)
  | 0, p => by rw [cvN, Nat.pow_zero, smC, smC, dgL, List.append_nil, Nat.zero_add]
  | d + 1, p => by
    rw [cvN, Nat.pow_succ, smC_mul, smC_swap]
    refine smC_congr fun k hk => ?_
    rw [cvN_dg hM Z d]
    refine smC_congr fun v _ => ?_
    have h1 : (v * M + k) % M = k := by rw [Nat.add_comm, Nat.add_mul_mod_self_right, Nat.mod_eq_of_lt hk]
    have h2 : (v * M + k) / M = v := by rw [Nat.add_comm, Nat.add_mul_div_right _ _ hM, Nat.div_eq_of_lt hk, Nat.zero_add]
    rw [dgL, h1, h2, List.append_assoc]
    rfl
theorem kl_cmp {M K n : Nat} {ll : List (List Int)} (h : pkC (M : Int) ll (K : Int) = 0) {x : List Int} (hx : x.length = K) (hb : ∀ z ∈ x, 0 ≤ z ∧ z < (M : Int)) : zrB (cmpL (M : Int) (mzL (M : Int) (pc (tab2 (K + 1) (pc ll))) K (varL K) n) (0 :: x) K (K + 1)) = klB (M : Int) ll x n := by
  have hpt := pk_pt h hx hb
  have hp1 := pt_one hpt
  have hz := pkC_zero h
  rw [← kl_all hpt, hx, mzL, mzL, if_neg (by omega), if_neg (by omega), Int.toNat_natCast]
  rw [mu_cmp (by omega) (by omega) ?_ ?_ rfl]
  · intro i j hij
    exact pc_out (by omega)
  · exact law_cut hz.1 (by omega) (by omega)
set_option maxHeartbeats 2000000 in
theorem c_spec_l16Killed (M n K : Nat) (ll : List (List Int)) (h : pkC (M : Int) ll (K : Int) = 0) (hn : n ≤ 1000000) (hz : M ^ K ≤ 5000) : AFn Try.prog 45 [.agg [.int .i64 (M : Int), .sl false 25 (rowsF (tab2 (K + 1) (pc ll)))], .int .i64 n] (.int .i64 (cvN M (fun y => klB M ll y n) K [] : Nat)) := by
  refine AFn.of' ttOk (by decide) Try.func45 Try.ntmps45 (by rw [Try.results45]) (by rfl) (by rfl) (by simp) (by decide) (by simp only [go_sem, Nat.reduceAdd, ↓reduceIte]; rfl) mixed (fun C hP hM hC => ?_)
  have hz1 := pkC_zero h
  have hl := isPl_of (lawB_of hz1.1).1
  have hpl : Pl (M : Int) (K + 1) (tab2 (K + 1) (pc ll)) := Pl.tab2 (by omega) fun i j _ => hl.2.2.2.2.num i j
  have hO := c_spec_l04Of (M : Int) n (tab2 (K + 1) (pc ll)) K (by omega) (by omega) hpl (by omega) (by omega) (by omega) (by omega)
  have f := mzL_facts (m := (M : Int)) (by omega) (pc (tab2 (K + 1) (pc ll))) K (varL K) n
  have hsz := c_spec_l16Size M K 5000 (by omega) (by omega) (by omega) (by omega) (by omega)
  rw [show szM M K 5000 = M ^ K by rw [szM, if_pos hz]] at hsz
  have hkl := fun (x : List Int) (hx : x.length = K) (hb : ∀ z ∈ x, 0 ≤ z ∧ z < (M : Int)) => kl_cmp (n := n) h hx hb
  generalize mzL (M : Int) (pc (tab2 (K + 1) (pc ll))) K (varL K) n = P at *
  rw [cvN_dg (by omega)]
  simp only [List.nil_append]
  have hwk : IntKind.i64.wrap (((K + 1 : Nat) : Int) - 1) = (K : Int) := by
    rw [wid _ (by omega) (by omega)]
    omega
  (repeat (first | ((with_reducible refine rgn_cons rfl (fun K hK => ?_)); simp only [go_sem, seval, ↓reduceIte, decide_true, decide_false, rowsF_length, tab2_length, hwk]; (first | refine hK _ _ _ (by simp only [go_sem, Nat.reduceEqDiff, ↓reduceIte]; rfl) ?_ | refine ⟨_, hO, hK _ _ _ (by simp only [go_sem, Nat.reduceEqDiff, ↓reduceIte]; rfl) ?_⟩); clear hK; clear K) | (with_reducible first | refine rgn_nil (by first | trivial | kernel_rfl) ?_ | refine AWP.seq ?_ | refine tX hC hP (by kernel_rfl) ?_ | refine aX hC hM hP (by kernel_rfl) ?_ | refine AWP.skip ?_ | refine AWP.label ?_ | refine AWP.exit ?_ | refine AWP.block ?_ | refine cTa ?_ | refine cFa ?_) | simp only [qS, Nat.reduceEqDiff, ↓reduceIte]))
  refine AWP.loop (fun v : Nat => [(8, ⟨0, .val (.int .i64 v)⟩), (7, ⟨0, .val (.int .i64 (smC v (fun v => if klB M ll (dgL M K v) n = true then 1 else 0) : Nat))⟩), (6, ⟨0, .val (.int .i64 K)⟩), (5, ⟨1, .own (.sl true 2 (intL P))⟩), (2, ⟨1, .own (.box 29 (.agg [.int .i64 (M : Int), .sl false 25 (rowsF (tab2 (K + 1) (pc ll)))]))⟩)]) (fun v => v ≤ M ^ K) (fun v => M ^ K - v) 0 (Nat.zero_le _) (fun v => rfl) ?_ (fun v hv => ?_)
  · simp [Sub, lk, smC]
  · have hcl : smC v (fun v => if klB M ll (dgL M K v) n = true then 1 else 0) ≤ v * 1 := smC_le fun v _ => by split <;> omega
    by_cases hlt : v < M ^ K
    · have hvl : (v : Int) < ((M ^ K : Nat) : Int) := by omega
      (repeat (first | ((with_reducible refine rgn_cons rfl (fun K hK => ?_)); simp only [go_sem, seval, ↓reduceIte, decide_true, decide_false, hvl, decide_true]; (first | refine hK _ _ _ (by simp only [go_sem, Nat.reduceEqDiff, ↓reduceIte]; rfl) ?_ | refine ⟨_, hsz, hK _ _ _ (by simp only [go_sem, Nat.reduceEqDiff, ↓reduceIte]; rfl) ?_⟩); clear hK; clear K) | (with_reducible first | refine rgn_nil (by first | trivial | kernel_rfl) ?_ | refine AWP.seq ?_ | refine tX hC hP (by kernel_rfl) ?_ | refine aX hC hM hP (by kernel_rfl) ?_ | refine AWP.skip ?_ | refine AWP.label ?_ | refine AWP.exit ?_ | refine AWP.block ?_ | refine cTa ?_ | refine cFa ?_) | simp only [qS, Nat.reduceEqDiff, ↓reduceIte]))
      refine AWP.loop (fun w : Nat × Nat × List Int × Nat => [(11, ⟨0, .val (.int .i64 w.1)⟩), (10, ⟨0, .val (.int .i64 w.2.1)⟩), (9, ⟨w.2.2.2, .own (.sl true 2 (intL (0 :: w.2.2.1)))⟩), (8, ⟨0, .val (.int .i64 v)⟩), (7, ⟨0, .val (.int .i64 (smC v (fun v => if klB M ll (dgL M K v) n = true then 1 else 0) : Nat))⟩), (6, ⟨0, .val (.int .i64 K)⟩), (5, ⟨1, .own (.sl true 2 (intL P))⟩), (2, ⟨1, .own (.box 29 (.agg [.int .i64 (M : Int), .sl false 25 (rowsF (tab2 (K + 1) (pc ll)))]))⟩)]) (fun w => w.1 ≤ K ∧ w.2.2.1.length = w.1 ∧ w.2.1 ≤ v ∧ w.2.2.1 ++ dgL M (K - w.1) w.2.1 = dgL M K v) (fun w => K - w.1) (0, v, [], 1) ⟨Nat.zero_le _, rfl, Nat.le_refl _, by simp⟩ (fun w => rfl) ?_ (fun w hw => ?_)
      · simp [Sub, lk, intL]
      · obtain ⟨i, r, x, ver⟩ := w
        simp only at hw ⊢
        obtain ⟨hi, hxl, hr, hE⟩ := hw
        by_cases hik : i < K
        · have hdg : dgL M (K - i) r = ((r % M : Nat) : Int) :: dgL M (K - (i + 1)) (r / M) := by
            rw [show K - i = (K - (i + 1)) + 1 by omega, dgL]
          have hrd : r / M ≤ r := Nat.div_le_self _ _
          obtain ⟨q, hq⟩ : ∃ q, r / M = q := ⟨_, rfl⟩
          obtain ⟨z, hz9⟩ : ∃ z, r % M = z := ⟨_, rfl⟩
          rw [hq, hz9] at hdg
          rw [hq] at hrd
          have g1 : (i : Int) < (K : Int) := by omega
          have g2 : (M : Int) ≠ 0 := by omega
          have g3 : i + 1 + 1 ≤ 1099511627776 := by omega
          have g4 : (i + 1 + 1) * 8 ≤ 140737488355328 := by omega
          have g5 := wid (q : Int) (by omega) (by omega)
          have g6 := wid ((i : Int) + 1) (by omega) (by omega)
          (repeat (first | ((with_reducible refine rgn_cons rfl (fun K hK => ?_)); simp only [go_sem, seval, ↓reduceIte, decide_true, decide_false, g1, g2, g3, g4, g5, g6, decide_true, tmodN2, tdivN2, hq, hz9, intL_snoc, List.length_cons, hxl, List.cons_append]; (refine hK _ _ _ (by simp only [go_sem, Nat.reduceEqDiff, ↓reduceIte]; rfl) ?_); clear hK; clear K) | (with_reducible first | refine rgn_nil (by first | trivial | kernel_rfl) ?_ | refine AWP.seq ?_ | refine tX hC hP (by kernel_rfl) ?_ | refine aX hC hM hP (by kernel_rfl) ?_ | refine AWP.skip ?_ | refine AWP.label ?_ | refine AWP.exit ?_ | refine AWP.block ?_ | refine cTa ?_ | refine cFa ?_) | simp only [qS, Nat.reduceEqDiff, ↓reduceIte]))
          exact ⟨(i + 1, q, x ++ [(z : Int)], ver + 1), ⟨by simp only; omega, by simp [hxl], by simp only; omega, by simp only; rw [List.append_assoc, ← hE, hdg]; rfl⟩, by simp only; omega, by simp [Sub, lk]⟩
        · have e : i = K := by omega
          subst e
          rw [Nat.sub_self, dgL, List.append_nil] at hE
          subst hE
          have hdb := dgL_b (M := M) (by omega) i v
          have hdl := dgL_length M i v
          have hk1 := hkl (dgL M i v) hdl hdb
          have hcm := c_spec_l02Compose (M : Int) P (0 :: dgL M i v) i (by omega) (by omega) f.2 (fun z hz => by
            rcases List.mem_cons.1 hz with e | e
            · omega
            · exact hdb z e) f.1 (by simp [hdl]) (by omega)
          have hcl2 := cmpL_length (M : Int) P (0 :: dgL M i v) i (i + 1)
          have hZ := c_spec_l16Zero (cmpL (M : Int) P (0 :: dgL M i v) i (i + 1)) (by omega)
          rw [hk1] at hZ
          cases hk : klB M ll (dgL M i v) n with
          | true =>
            rw [hk] at hZ
            have g1 : ¬ (i : Int) < (i : Int) := by omega
            have g2 : IntKind.i64.wrap (((smC v (fun v => if klB M ll (dgL M i v) n = true then 1 else 0) : Nat) : Int) + 1) = ((smC (v + 1) (fun v => if klB M ll (dgL M i v) n = true then 1 else 0) : Nat) : Int) := by
              rw [wid _ (by omega) (by omega), smC]
              rw [hk, if_pos rfl]
              omega
            have g3 := wid ((v : Int) + 1) (by omega) (by omega)
            (repeat (first | ((with_reducible refine rgn_cons rfl (fun K hK => ?_)); simp only [go_sem, seval, ↓reduceIte, decide_true, decide_false, g1, g2, g3, decide_false]; (first | refine hK _ _ _ (by simp only [go_sem, Nat.reduceEqDiff, ↓reduceIte]; rfl) ?_ | refine ⟨_, hcm, hK _ _ _ (by simp only [go_sem, Nat.reduceEqDiff, ↓reduceIte]; rfl) ?_⟩ | refine ⟨_, hZ, hK _ _ _ (by simp only [go_sem, Nat.reduceEqDiff, ↓reduceIte]; rfl) ?_⟩); clear hK; clear K) | (with_reducible first | refine rgn_nil (by first | trivial | kernel_rfl) ?_ | refine AWP.seq ?_ | refine tX hC hP (by kernel_rfl) ?_ | refine aX hC hM hP (by kernel_rfl) ?_ | refine AWP.skip ?_ | refine AWP.label ?_ | refine AWP.exit ?_ | refine AWP.block ?_ | refine cTa ?_ | refine cFa ?_) | simp only [qS, Nat.reduceEqDiff, ↓reduceIte]))
            exact ⟨v + 1, by omega, by omega, by simp [Sub, lk]⟩
          | false =>
            rw [hk] at hZ
            have g1 : ¬ (i : Int) < (i : Int) := by omega
            have g3 := wid ((v : Int) + 1) (by omega) (by omega)
            (repeat (first | ((with_reducible refine rgn_cons rfl (fun K hK => ?_)); simp only [go_sem, seval, ↓reduceIte, decide_true, decide_false, g1, g3, decide_false]; (first | refine hK _ _ _ (by simp only [go_sem, Nat.reduceEqDiff, ↓reduceIte]; rfl) ?_ | refine ⟨_, hcm, hK _ _ _ (by simp only [go_sem, Nat.reduceEqDiff, ↓reduceIte]; rfl) ?_⟩ | refine ⟨_, hZ, hK _ _ _ (by simp only [go_sem, Nat.reduceEqDiff, ↓reduceIte]; rfl) ?_⟩); clear hK; clear K) | (with_reducible first | refine rgn_nil (by first | trivial | kernel_rfl) ?_ | refine AWP.seq ?_ | refine tX hC hP (by kernel_rfl) ?_ | refine aX hC hM hP (by kernel_rfl) ?_ | refine AWP.skip ?_ | refine AWP.label ?_ | refine AWP.exit ?_ | refine AWP.block ?_ | refine cTa ?_ | refine cFa ?_) | simp only [qS, Nat.reduceEqDiff, ↓reduceIte]))
            exact ⟨v + 1, by omega, by omega, by simp [Sub, lk, smC, hk]⟩
    · have e : v = M ^ K := by omega
      subst e
      have g1 : ¬ ((M ^ K : Nat) : Int) < ((M ^ K : Nat) : Int) := by omega
      (repeat (first | ((with_reducible refine rgn_cons rfl (fun K hK => ?_)); simp only [go_sem, seval, ↓reduceIte, decide_true, decide_false, g1, decide_false]; (first | refine hK _ _ _ (by simp only [go_sem, Nat.reduceEqDiff, ↓reduceIte]; rfl) ?_ | refine ⟨_, hsz, hK _ _ _ (by simp only [go_sem, Nat.reduceEqDiff, ↓reduceIte]; rfl) ?_⟩); clear hK; clear K) | (with_reducible first | refine rgn_nil (by first | trivial | kernel_rfl) ?_ | refine AWP.seq ?_ | refine tX hC hP (by kernel_rfl) ?_ | refine aX hC hM hP (by kernel_rfl) ?_ | refine AWP.skip ?_ | refine AWP.label ?_ | refine AWP.exit ?_ | refine AWP.block ?_ | refine cTa ?_ | refine cFa ?_) | simp only [qS, Nat.reduceEqDiff, ↓reduceIte]))
      (refine AWP.ret ?_; refine retOk1 (by simp only [go_sem, seval, ↓reduceIte, decide_true, decide_false]; rfl) ?_)
      rfl
set_option maxHeartbeats 1000000 in
theorem c_spec_l16Many (m k : Int) (ll : List (List Int)) (hs : Sm ll) : AFn Try.prog 43 [.agg [.int .i64 m, .sl false 25 (rowsF ll)], .int .i64 k] (.int .i64 (if pkC m ll k = 0 ∧ szM m.toNat k.toNat 5000 = 5001 then 3 else pkC m ll k)) := by
  refine AFn.of' ttOk (by decide) Try.func43 Try.ntmps43 (by rw [Try.results43]) (by rfl) (by rfl) (by simp) (by decide) (by simp only [go_sem, Nat.reduceAdd, ↓reduceIte]; rfl) mixed (fun C hP hM hC => ?_)
  have hA := c_spec_l04Is m ll hs
  cases hb : lawB m ll with
  | false =>
    (repeat (first | ((with_reducible refine rgn_cons rfl (fun K hK => ?_)); simp only [go_sem, seval, ↓reduceIte, decide_true, decide_false, hb]; (first | refine hK _ _ _ (by simp only [go_sem, Nat.reduceEqDiff, ↓reduceIte]; rfl) ?_ | refine ⟨_, hA, hK _ _ _ (by simp only [go_sem, Nat.reduceEqDiff, ↓reduceIte]; rfl) ?_⟩); clear hK; clear K) | (with_reducible first | refine rgn_nil (by first | trivial | kernel_rfl) ?_ | refine AWP.seq ?_ | refine tX hC hP (by kernel_rfl) ?_ | refine aX hC hM hP (by kernel_rfl) ?_ | refine AWP.skip ?_ | refine AWP.label ?_ | refine AWP.exit ?_ | refine AWP.block ?_ | refine cTa ?_ | refine cFa ?_) | simp only [qS, Nat.reduceEqDiff, ↓reduceIte]))
    (refine AWP.ret ?_; refine retOk1 (by simp only [go_sem, seval, ↓reduceIte, decide_true, decide_false]; rfl) ?_)
    have e : pkC m ll k = 1 := by simp [pkC, hb]
    rw [e, if_neg (by omega)]
  | true =>
    have hp := isPl_of (lawB_of hb).1
    have hD := c_spec_l03Degree m ll (by omega)
    cases hr : (decide (1 ≤ k) && decide (k ≤ (ll.length : Int) - 1)) with
    | false =>
      (repeat (first | ((with_reducible refine rgn_cons rfl (fun K hK => ?_)); simp only [go_sem, seval, ↓reduceIte, decide_true, decide_false, hb, hr]; (first | refine hK _ _ _ (by simp only [go_sem, Nat.reduceEqDiff, ↓reduceIte]; rfl) ?_ | refine ⟨_, hA, hK _ _ _ (by simp only [go_sem, Nat.reduceEqDiff, ↓reduceIte]; rfl) ?_⟩ | refine ⟨_, hD, hK _ _ _ (by simp only [go_sem, Nat.reduceEqDiff, ↓reduceIte]; rfl) ?_⟩ | refine ⟨_, c_spec_l01In _ _ _, hK _ _ _ (by simp only [go_sem, Nat.reduceEqDiff, ↓reduceIte]; rfl) ?_⟩); clear hK; clear K) | (with_reducible first | refine rgn_nil (by first | trivial | kernel_rfl) ?_ | refine AWP.seq ?_ | refine tX hC hP (by kernel_rfl) ?_ | refine aX hC hM hP (by kernel_rfl) ?_ | refine AWP.skip ?_ | refine AWP.label ?_ | refine AWP.exit ?_ | refine AWP.block ?_ | refine cTa ?_ | refine cFa ?_) | simp only [qS, Nat.reduceEqDiff, ↓reduceIte]))
      (refine AWP.ret ?_; refine retOk1 (by simp only [go_sem, seval, ↓reduceIte, decide_true, decide_false]; rfl) ?_)
      have : ¬ (1 ≤ k ∧ k ≤ (ll.length : Int) - 1) := by
        intro h
        rw [decide_eq_true h.1, decide_eq_true h.2] at hr
        cases hr
      have e : pkC m ll k = 2 := by rw [pkC, if_pos hb, if_neg this]
      rw [e, if_neg (by omega)]
    | true =>
      have h2 : 1 ≤ k ∧ k ≤ (ll.length : Int) - 1 := by simpa using hr
      have e : pkC m ll k = 0 := by rw [pkC, if_pos hb, if_pos h2]
      obtain ⟨M, rfl⟩ := Int.eq_ofNat_of_zero_le (show 0 ≤ m by omega)
      obtain ⟨K, rfl⟩ := Int.eq_ofNat_of_zero_le (show 0 ≤ k by omega)
      have hB := c_spec_l16Size M K 5000 (by omega) (by omega) (by omega) (by omega) (by omega)
      by_cases hq : szM M K 5000 = 5001
      · rw [hq] at hB
        (repeat (first | ((with_reducible refine rgn_cons rfl (fun K hK => ?_)); simp only [go_sem, seval, ↓reduceIte, decide_true, decide_false, hb, hr, show (5000 : Int) < ((5001 : Nat) : Int) by omega, decide_true]; (first | refine hK _ _ _ (by simp only [go_sem, Nat.reduceEqDiff, ↓reduceIte]; rfl) ?_ | refine ⟨_, hA, hK _ _ _ (by simp only [go_sem, Nat.reduceEqDiff, ↓reduceIte]; rfl) ?_⟩ | refine ⟨_, hD, hK _ _ _ (by simp only [go_sem, Nat.reduceEqDiff, ↓reduceIte]; rfl) ?_⟩ | refine ⟨_, hB, hK _ _ _ (by simp only [go_sem, Nat.reduceEqDiff, ↓reduceIte]; rfl) ?_⟩ | refine ⟨_, c_spec_l01In _ _ _, hK _ _ _ (by simp only [go_sem, Nat.reduceEqDiff, ↓reduceIte]; rfl) ?_⟩); clear hK; clear K) | (with_reducible first | refine rgn_nil (by first | trivial | kernel_rfl) ?_ | refine AWP.seq ?_ | refine tX hC hP (by kernel_rfl) ?_ | refine aX hC hM hP (by kernel_rfl) ?_ | refine AWP.skip ?_ | refine AWP.label ?_ | refine AWP.exit ?_ | refine AWP.block ?_ | refine cTa ?_ | refine cFa ?_) | simp only [qS, Nat.reduceEqDiff, ↓reduceIte]))
        (refine AWP.ret ?_; refine retOk1 (by simp only [go_sem, seval, ↓reduceIte, decide_true, decide_false]; rfl) ?_)
        rw [if_pos ⟨e, hq⟩]
      · have h5 := szM_big hq
        have h6 : ¬ (5000 : Int) < ((szM M K 5000 : Nat) : Int) := by omega
        (repeat (first | ((with_reducible refine rgn_cons rfl (fun K hK => ?_)); simp only [go_sem, seval, ↓reduceIte, decide_true, decide_false, hb, hr, h6, decide_false]; (first | refine hK _ _ _ (by simp only [go_sem, Nat.reduceEqDiff, ↓reduceIte]; rfl) ?_ | refine ⟨_, hA, hK _ _ _ (by simp only [go_sem, Nat.reduceEqDiff, ↓reduceIte]; rfl) ?_⟩ | refine ⟨_, hD, hK _ _ _ (by simp only [go_sem, Nat.reduceEqDiff, ↓reduceIte]; rfl) ?_⟩ | refine ⟨_, hB, hK _ _ _ (by simp only [go_sem, Nat.reduceEqDiff, ↓reduceIte]; rfl) ?_⟩ | refine ⟨_, c_spec_l01In _ _ _, hK _ _ _ (by simp only [go_sem, Nat.reduceEqDiff, ↓reduceIte]; rfl) ?_⟩); clear hK; clear K) | (with_reducible first | refine rgn_nil (by first | trivial | kernel_rfl) ?_ | refine AWP.seq ?_ | refine tX hC hP (by kernel_rfl) ?_ | refine aX hC hM hP (by kernel_rfl) ?_ | refine AWP.skip ?_ | refine AWP.label ?_ | refine AWP.exit ?_ | refine AWP.block ?_ | refine cTa ?_ | refine cFa ?_) | simp only [qS, Nat.reduceEqDiff, ↓reduceIte]))
        (refine AWP.ret ?_; refine retOk1 (by simp only [go_sem, seval, ↓reduceIte, decide_true, decide_false]; rfl) ?_)
        rw [if_neg (fun h => hq h.2), e]
set_option maxHeartbeats 1000000 in
theorem c_spec_CountKilled (m k n : Int) (ll : List (List Int)) (hs : Sm ll) : AFn Try.prog 19 [.agg [.int .i64 m, .sl false 25 (rowsF ll)], .int .i64 k, .int .i64 n] (.tup [.int .i64 (ckV m ll k n), .int .i64 (ckC m ll k n)]) := by
  refine AFn.of' ttOk (by decide) Try.func19 Try.ntmps19 (by rw [Try.results19]) (by rfl) (by rfl) (by simp) (by decide) (by simp only [go_sem, Nat.reduceAdd, ↓reduceIte]; rfl) mixed (fun C hP hM hC => ?_)
  have hA := c_spec_l16Many m k ll hs
  by_cases h0 : pkC m ll k = 0
  · obtain ⟨h1, h2, h3⟩ := pkC_zero h0
    have hl := isPl_of (lawB_of h1).1
    obtain ⟨M, rfl⟩ := Int.eq_ofNat_of_zero_le (show 0 ≤ m by omega)
    obtain ⟨K, rfl⟩ := Int.eq_ofNat_of_zero_le (show 0 ≤ k by omega)
    rw [h0, Int.toNat_natCast, Int.toNat_natCast] at hA
    by_cases hn : 0 ≤ n ∧ n ≤ 1000000
    · obtain ⟨N, rfl⟩ := Int.eq_ofNat_of_zero_le (show 0 ≤ n by omega)
      by_cases hq : szM M K 5000 = 5001
      · have hc : ckC (M : Int) ll (K : Int) (N : Int) = 3 := by
          rw [ckC, h0, if_neg (by decide), if_neg (by omega), Int.toNat_natCast, Int.toNat_natCast, if_pos hq]
        rw [if_pos ⟨rfl, hq⟩] at hA
        (repeat (first | ((with_reducible refine rgn_cons rfl (fun K hK => ?_)); simp only [go_sem, seval, ↓reduceIte, decide_true, decide_false, show ((3 : Int) != 1) = true from rfl, show ((3 : Int) != 0) = true from rfl, show (0 : Int) ≤ (N : Int) by omega, show (N : Int) ≤ 1000000 by omega, decide_true, Bool.and_self]; (first | refine hK _ _ _ (by simp only [go_sem, Nat.reduceEqDiff, ↓reduceIte]; rfl) ?_ | refine ⟨_, hA, hK _ _ _ (by simp only [go_sem, Nat.reduceEqDiff, ↓reduceIte]; rfl) ?_⟩ | refine ⟨_, c_spec_l01In _ _ _, hK _ _ _ (by simp only [go_sem, Nat.reduceEqDiff, ↓reduceIte]; rfl) ?_⟩); clear hK; clear K) | (with_reducible first | refine rgn_nil (by first | trivial | kernel_rfl) ?_ | refine AWP.seq ?_ | refine tX hC hP (by kernel_rfl) ?_ | refine aX hC hM hP (by kernel_rfl) ?_ | refine AWP.skip ?_ | refine AWP.label ?_ | refine AWP.exit ?_ | refine AWP.block ?_ | refine cTa ?_ | refine cFa ?_) | simp only [qS, Nat.reduceEqDiff, ↓reduceIte]))
        (refine AWP.ret ?_; refine retOk2 (by simp only [go_sem, seval, ↓reduceIte, decide_true, decide_false]; rfl) (by simp only [go_sem, seval, ↓reduceIte, decide_true, decide_false]; rfl) (by simp) ?_)
        rw [hc, ckV, hc, if_neg (by decide)]
      · have h5 := szM_big hq
        have hc : ckC (M : Int) ll (K : Int) (N : Int) = 0 := by
          rw [ckC, h0, if_neg (by decide), if_neg (by omega), Int.toNat_natCast, Int.toNat_natCast, if_neg hq]
        rw [if_neg (fun h => hq h.2)] at hA
        have hct := c_spec_l16Cut (M : Int) ll ll.length K hl.2.2.2.2 (by omega) (by omega)
        have hck := c_spec_l16Killed M N K ll h0 (by omega) h5.1
        (repeat (first | ((with_reducible refine rgn_cons rfl (fun K hK => ?_)); simp only [go_sem, seval, ↓reduceIte, decide_true, decide_false, show ((0 : Int) != 1) = true from rfl, show ((0 : Int) != 0) = false from rfl, show (0 : Int) ≤ (N : Int) by omega, show (N : Int) ≤ 1000000 by omega, decide_true, Bool.and_self]; (first | refine hK _ _ _ (by simp only [go_sem, Nat.reduceEqDiff, ↓reduceIte]; rfl) ?_ | refine ⟨_, hA, hK _ _ _ (by simp only [go_sem, Nat.reduceEqDiff, ↓reduceIte]; rfl) ?_⟩ | refine ⟨_, c_spec_l01In _ _ _, hK _ _ _ (by simp only [go_sem, Nat.reduceEqDiff, ↓reduceIte]; rfl) ?_⟩ | refine ⟨_, hct, hK _ _ _ (by simp only [go_sem, Nat.reduceEqDiff, ↓reduceIte]; rfl) ?_⟩ | refine ⟨_, hck, hK _ _ _ (by simp only [go_sem, Nat.reduceEqDiff, ↓reduceIte]; rfl) ?_⟩); clear hK; clear K) | (with_reducible first | refine rgn_nil (by first | trivial | kernel_rfl) ?_ | refine AWP.seq ?_ | refine tX hC hP (by kernel_rfl) ?_ | refine aX hC hM hP (by kernel_rfl) ?_ | refine AWP.skip ?_ | refine AWP.label ?_ | refine AWP.exit ?_ | refine AWP.block ?_ | refine cTa ?_ | refine cFa ?_) | simp only [qS, Nat.reduceEqDiff, ↓reduceIte]))
        (refine AWP.ret ?_; refine retOk2 (by simp only [go_sem, seval, ↓reduceIte, decide_true, decide_false]; rfl) (by simp only [go_sem, seval, ↓reduceIte, decide_true, decide_false]; rfl) (by simp) ?_)
        rw [hc, ckV, hc, if_pos rfl, Int.toNat_natCast, Int.toNat_natCast, Int.toNat_natCast]
    · have hc : ckC (M : Int) ll (K : Int) n = 2 := by
        rw [ckC, h0, if_neg (by decide), if_pos (.inr hn)]
      have hd2 : (decide ((0 : Int) ≤ n) && decide (n ≤ (1000000 : Int))) = false := by simpa using hn
      by_cases hq : szM M K 5000 = 5001
      · rw [if_pos ⟨rfl, hq⟩] at hA
        (repeat (first | ((with_reducible refine rgn_cons rfl (fun K hK => ?_)); simp only [go_sem, seval, ↓reduceIte, decide_true, decide_false, show ((3 : Int) != 1) = true from rfl, show ((2 : Int) != 0) = true from rfl, hd2]; (first | refine hK _ _ _ (by simp only [go_sem, Nat.reduceEqDiff, ↓reduceIte]; rfl) ?_ | refine ⟨_, hA, hK _ _ _ (by simp only [go_sem, Nat.reduceEqDiff, ↓reduceIte]; rfl) ?_⟩ | refine ⟨_, c_spec_l01In _ _ _, hK _ _ _ (by simp only [go_sem, Nat.reduceEqDiff, ↓reduceIte]; rfl) ?_⟩); clear hK; clear K) | (with_reducible first | refine rgn_nil (by first | trivial | kernel_rfl) ?_ | refine AWP.seq ?_ | refine tX hC hP (by kernel_rfl) ?_ | refine aX hC hM hP (by kernel_rfl) ?_ | refine AWP.skip ?_ | refine AWP.label ?_ | refine AWP.exit ?_ | refine AWP.block ?_ | refine cTa ?_ | refine cFa ?_) | simp only [qS, Nat.reduceEqDiff, ↓reduceIte]))
        (refine AWP.ret ?_; refine retOk2 (by simp only [go_sem, seval, ↓reduceIte, decide_true, decide_false]; rfl) (by simp only [go_sem, seval, ↓reduceIte, decide_true, decide_false]; rfl) (by simp) ?_)
        rw [hc, ckV, hc, if_neg (by decide)]
      · rw [if_neg (fun h => hq h.2)] at hA
        (repeat (first | ((with_reducible refine rgn_cons rfl (fun K hK => ?_)); simp only [go_sem, seval, ↓reduceIte, decide_true, decide_false, show ((0 : Int) != 1) = true from rfl, show ((2 : Int) != 0) = true from rfl, hd2]; (first | refine hK _ _ _ (by simp only [go_sem, Nat.reduceEqDiff, ↓reduceIte]; rfl) ?_ | refine ⟨_, hA, hK _ _ _ (by simp only [go_sem, Nat.reduceEqDiff, ↓reduceIte]; rfl) ?_⟩ | refine ⟨_, c_spec_l01In _ _ _, hK _ _ _ (by simp only [go_sem, Nat.reduceEqDiff, ↓reduceIte]; rfl) ?_⟩); clear hK; clear K) | (with_reducible first | refine rgn_nil (by first | trivial | kernel_rfl) ?_ | refine AWP.seq ?_ | refine tX hC hP (by kernel_rfl) ?_ | refine aX hC hM hP (by kernel_rfl) ?_ | refine AWP.skip ?_ | refine AWP.label ?_ | refine AWP.exit ?_ | refine AWP.block ?_ | refine cTa ?_ | refine cFa ?_) | simp only [qS, Nat.reduceEqDiff, ↓reduceIte]))
        (refine AWP.ret ?_; refine retOk2 (by simp only [go_sem, seval, ↓reduceIte, decide_true, decide_false]; rfl) (by simp only [go_sem, seval, ↓reduceIte, decide_true, decide_false]; rfl) (by simp) ?_)
        rw [hc, ckV, hc, if_neg (by decide)]
  · rw [if_neg (fun h => h0 h.1)] at hA
    rcases pkC_cases m ll k with e | e | e
    · exact absurd e h0
    · have hc : ckC m ll k n = 1 := by rw [ckC, e, if_pos rfl]
      rw [e] at hA
      (repeat (first | ((with_reducible refine rgn_cons rfl (fun K hK => ?_)); simp only [go_sem, seval, ↓reduceIte, decide_true, decide_false, show ((1 : Int) != 1) = false from rfl, show ((1 : Int) != 0) = true from rfl]; (first | refine hK _ _ _ (by simp only [go_sem, Nat.reduceEqDiff, ↓reduceIte]; rfl) ?_ | refine ⟨_, hA, hK _ _ _ (by simp only [go_sem, Nat.reduceEqDiff, ↓reduceIte]; rfl) ?_⟩); clear hK; clear K) | (with_reducible first | refine rgn_nil (by first | trivial | kernel_rfl) ?_ | refine AWP.seq ?_ | refine tX hC hP (by kernel_rfl) ?_ | refine aX hC hM hP (by kernel_rfl) ?_ | refine AWP.skip ?_ | refine AWP.label ?_ | refine AWP.exit ?_ | refine AWP.block ?_ | refine cTa ?_ | refine cFa ?_) | simp only [qS, Nat.reduceEqDiff, ↓reduceIte]))
      (refine AWP.ret ?_; refine retOk2 (by simp only [go_sem, seval, ↓reduceIte, decide_true, decide_false]; rfl) (by simp only [go_sem, seval, ↓reduceIte, decide_true, decide_false]; rfl) (by simp) ?_)
      rw [ckV, hc, if_neg (by decide)]
    · have hc : ckC m ll k n = 2 := by rw [ckC, e, if_neg (by decide), if_pos (.inl rfl)]
      rw [e] at hA
      by_cases hn : 0 ≤ n ∧ n ≤ 1000000
      · (repeat (first | ((with_reducible refine rgn_cons rfl (fun K hK => ?_)); simp only [go_sem, seval, ↓reduceIte, decide_true, decide_false, show ((2 : Int) != 1) = true from rfl, show ((2 : Int) != 0) = true from rfl, show (0 : Int) ≤ n by omega, show n ≤ 1000000 by omega, decide_true, Bool.and_self]; (first | refine hK _ _ _ (by simp only [go_sem, Nat.reduceEqDiff, ↓reduceIte]; rfl) ?_ | refine ⟨_, hA, hK _ _ _ (by simp only [go_sem, Nat.reduceEqDiff, ↓reduceIte]; rfl) ?_⟩ | refine ⟨_, c_spec_l01In _ _ _, hK _ _ _ (by simp only [go_sem, Nat.reduceEqDiff, ↓reduceIte]; rfl) ?_⟩); clear hK; clear K) | (with_reducible first | refine rgn_nil (by first | trivial | kernel_rfl) ?_ | refine AWP.seq ?_ | refine tX hC hP (by kernel_rfl) ?_ | refine aX hC hM hP (by kernel_rfl) ?_ | refine AWP.skip ?_ | refine AWP.label ?_ | refine AWP.exit ?_ | refine AWP.block ?_ | refine cTa ?_ | refine cFa ?_) | simp only [qS, Nat.reduceEqDiff, ↓reduceIte]))
        (refine AWP.ret ?_; refine retOk2 (by simp only [go_sem, seval, ↓reduceIte, decide_true, decide_false]; rfl) (by simp only [go_sem, seval, ↓reduceIte, decide_true, decide_false]; rfl) (by simp) ?_)
        rw [ckV, hc, if_neg (by decide)]
      · (repeat (first | ((with_reducible refine rgn_cons rfl (fun K hK => ?_)); simp only [go_sem, seval, ↓reduceIte, decide_true, decide_false, show ((2 : Int) != 1) = true from rfl, show ((2 : Int) != 0) = true from rfl, show (decide ((0 : Int) ≤ n) && decide (n ≤ (1000000 : Int))) = false by simpa using hn]; (first | refine hK _ _ _ (by simp only [go_sem, Nat.reduceEqDiff, ↓reduceIte]; rfl) ?_ | refine ⟨_, hA, hK _ _ _ (by simp only [go_sem, Nat.reduceEqDiff, ↓reduceIte]; rfl) ?_⟩ | refine ⟨_, c_spec_l01In _ _ _, hK _ _ _ (by simp only [go_sem, Nat.reduceEqDiff, ↓reduceIte]; rfl) ?_⟩); clear hK; clear K) | (with_reducible first | refine rgn_nil (by first | trivial | kernel_rfl) ?_ | refine AWP.seq ?_ | refine tX hC hP (by kernel_rfl) ?_ | refine aX hC hM hP (by kernel_rfl) ?_ | refine AWP.skip ?_ | refine AWP.label ?_ | refine AWP.exit ?_ | refine AWP.block ?_ | refine cTa ?_ | refine cFa ?_) | simp only [qS, Nat.reduceEqDiff, ↓reduceIte]))
        (refine AWP.ret ?_; refine retOk2 (by simp only [go_sem, seval, ↓reduceIte, decide_true, decide_false]; rfl) (by simp only [go_sem, seval, ↓reduceIte, decide_true, decide_false]; rfl) (by simp) ?_)
        rw [ckV, hc, if_neg (by decide)]

end Go.Proofs.Ytfnfdjomkohfjaa

/-
  The reference's search.
-/
import Derived.Test.YtahnnangdepkbabId
import Derived.Test.YtahnnangdepkbabIg
import Derived.Test.YtahnnangdepkbabRn
namespace Go.Proofs.Ytahnnangdepkbab
open Go.RowKit
set_option linter.unusedSimpArgs false
set_option linter.unusedVariables false
set_option linter.unusedSectionVars false
set_option maxRecDepth 20000
-- The reference's search.
set_option maxHeartbeats 1000000 in
theorem c_spec_l01Unit (m a : Nat) (hm : m ≤ 10000) (ha : a ≤ 10000) : AFn Try.prog 15 [.int .i64 m, .int .i64 a] (.bool (unB m a)) := by
  refine AFn.of' ttOk (by decide) Try.func15 Try.ntmps15 (by rw [Try.results15]) (by rfl) (by rfl) (by simp) (by decide) (by simp only [go_sem, Nat.reduceAdd, ↓reduceIte]; rfl) mixed (fun C hP hM hC => ?_)
  have h1 := c_spec_l01Gcd a m (by omega) (by omega)
  obtain ⟨g, hg⟩ : ∃ g, Nat.gcd a m = g := ⟨_, rfl⟩
  rw [hg] at h1
  have hu : unB m a = (g == 1) := by rw [unB, Int.toNat_natCast, Int.toNat_natCast, hg]
  by_cases e : g = 1
  · (repeat (first | ((with_reducible refine rgn_cons rfl (fun K hK => ?_)); simp only [go_sem, seval, ↓reduceIte, decide_true, decide_false, show ((g : Int) == 1) = true by rw [beq_iff_eq]; omega]; (first | refine hK _ _ _ (by simp only [go_sem, Nat.reduceEqDiff, ↓reduceIte]; rfl) ?_ | refine ⟨_, h1, hK _ _ _ (by simp only [go_sem, Nat.reduceEqDiff, ↓reduceIte]; rfl) ?_⟩); clear hK; clear K) | (with_reducible first | refine rgn_nil (by first | trivial | kernel_rfl) ?_ | refine AWP.seq ?_ | refine tX hC hP (by kernel_rfl) ?_ | refine aX hC hM hP (by kernel_rfl) ?_ | refine AWP.skip ?_ | refine AWP.label ?_ | refine AWP.exit ?_ | refine AWP.block ?_ | refine cTa ?_ | refine cFa ?_) | simp only [qS, Nat.reduceEqDiff, ↓reduceIte]))
    (refine AWP.ret ?_; refine retOk1 (by simp only [go_sem, seval, ↓reduceIte, decide_true, decide_false]; rfl) ?_)
    rw [hu, beq_iff_eq.2 e]
  · (repeat (first | ((with_reducible refine rgn_cons rfl (fun K hK => ?_)); simp only [go_sem, seval, ↓reduceIte, decide_true, decide_false, show ((g : Int) == 1) = false by rw [beq_eq_false_iff_ne]; omega]; (first | refine hK _ _ _ (by simp only [go_sem, Nat.reduceEqDiff, ↓reduceIte]; rfl) ?_ | refine ⟨_, h1, hK _ _ _ (by simp only [go_sem, Nat.reduceEqDiff, ↓reduceIte]; rfl) ?_⟩); clear hK; clear K) | (with_reducible first | refine rgn_nil (by first | trivial | kernel_rfl) ?_ | refine AWP.seq ?_ | refine tX hC hP (by kernel_rfl) ?_ | refine aX hC hM hP (by kernel_rfl) ?_ | refine AWP.skip ?_ | refine AWP.label ?_ | refine AWP.exit ?_ | refine AWP.block ?_ | refine cTa ?_ | refine cFa ?_) | simp only [qS, Nat.reduceEqDiff, ↓reduceIte]))
    (refine AWP.ret ?_; refine retOk1 (by simp only [go_sem, seval, ↓reduceIte, decide_true, decide_false]; rfl) ?_)
    rw [hu, beq_eq_false_iff_ne.2 e]
set_option maxHeartbeats 1000000 in
theorem c_spec_l06Large (m k : Nat) (hm : 2 ≤ m) (hm2 : m ≤ 10000) (hk : k ≤ 1000) : AFn Try.prog 29 [.int .i64 m, .int .i64 k] (.bool (decide (szM m k 20000 = 20001))) := by
  refine AFn.of' ttOk (by decide) Try.func29 Try.ntmps29 (by rw [Try.results29]) (by rfl) (by rfl) (by simp) (by decide) (by simp only [go_sem, Nat.reduceAdd, ↓reduceIte]; rfl) mixed (fun C hP hM hC => ?_)
  (repeat (first | ((with_reducible refine rgn_cons rfl (fun K hK => ?_)); simp only [go_sem, seval, ↓reduceIte, decide_true, decide_false]; (refine hK _ _ _ (by simp only [go_sem, Nat.reduceEqDiff, ↓reduceIte]; rfl) ?_); clear hK; clear K) | (with_reducible first | refine rgn_nil (by first | trivial | kernel_rfl) ?_ | refine AWP.seq ?_ | refine tX hC hP (by kernel_rfl) ?_ | refine aX hC hM hP (by kernel_rfl) ?_ | refine AWP.skip ?_ | refine AWP.label ?_ | refine AWP.exit ?_ | refine AWP.block ?_ | refine cTa ?_ | refine cFa ?_) | simp only [qS, Nat.reduceEqDiff, ↓reduceIte]))
  refine AWP.loop (fun j : Nat => [(0, ⟨0, .val (.int .i64 m)⟩), (1, ⟨0, .val (.int .i64 ((k : Int) - j))⟩), (5, ⟨0, .val (.int .i64 (m ^ j : Nat))⟩)]) (fun j => j ≤ k ∧ m ^ j ≤ 20000) (fun j => k - j) 0 ⟨Nat.zero_le _, by rw [Nat.pow_zero]; omega⟩ (fun i => rfl) ?_ (fun j hj => ?_)
  · simp [Sub, lk]
  · by_cases hlt : j < k
    · have hs : m ^ j * m = m ^ (j + 1) := (Nat.pow_succ ..).symm
      have hb : m ^ (j + 1) ≤ 20000 * 10000 := by rw [← hs]; exact Nat.mul_le_mul hj.2 hm2
      by_cases hq : m ^ (j + 1) ≤ 20000
      · (repeat (first | ((with_reducible refine rgn_cons rfl (fun K hK => ?_)); simp only [go_sem, seval, ↓reduceIte, decide_true, decide_false, show (0 : Int) < (k : Int) - (j : Int) by omega, show (k : Int) - (j : Int) > 0 by omega, decide_true, ← Int.natCast_mul, hs, wid ((m ^ (j + 1) : Nat) : Int) (by omega) (by omega), show ¬ (20000 : Int) < ((m ^ (j + 1) : Nat) : Int) by omega, decide_false, wid ((k : Int) - (j : Int) - 1) (by omega) (by omega)]; (refine hK _ _ _ (by simp only [go_sem, Nat.reduceEqDiff, ↓reduceIte]; rfl) ?_); clear hK; clear K) | (with_reducible first | refine rgn_nil (by first | trivial | kernel_rfl) ?_ | refine AWP.seq ?_ | refine tX hC hP (by kernel_rfl) ?_ | refine aX hC hM hP (by kernel_rfl) ?_ | refine AWP.skip ?_ | refine AWP.label ?_ | refine AWP.exit ?_ | refine AWP.block ?_ | refine cTa ?_ | refine cFa ?_) | simp only [qS, Nat.reduceEqDiff, ↓reduceIte]))
        exact ⟨j + 1, ⟨hlt, hq⟩, by omega, by simp [Sub, lk]; omega⟩
      · have hE : szM m k 20000 = 20001 := if_neg (fun h => hq (Nat.le_trans (pow_mono1 hm hlt) h))
        (repeat (first | ((with_reducible refine rgn_cons rfl (fun K hK => ?_)); simp only [go_sem, seval, ↓reduceIte, decide_true, decide_false, show (0 : Int) < (k : Int) - (j : Int) by omega, decide_true, ← Int.natCast_mul, hs, wid ((m ^ (j + 1) : Nat) : Int) (by omega) (by omega), show (20000 : Int) < ((m ^ (j + 1) : Nat) : Int) by omega]; (refine hK _ _ _ (by simp only [go_sem, Nat.reduceEqDiff, ↓reduceIte]; rfl) ?_); clear hK; clear K) | (with_reducible first | refine rgn_nil (by first | trivial | kernel_rfl) ?_ | refine AWP.seq ?_ | refine tX hC hP (by kernel_rfl) ?_ | refine aX hC hM hP (by kernel_rfl) ?_ | refine AWP.skip ?_ | refine AWP.label ?_ | refine AWP.exit ?_ | refine AWP.block ?_ | refine cTa ?_ | refine cFa ?_) | simp only [qS, Nat.reduceEqDiff, ↓reduceIte]))
        (refine AWP.ret ?_; refine retOk1 (by simp only [go_sem, seval, ↓reduceIte, decide_true, decide_false]; rfl) ?_)
        rw [hE]; rfl
    · have e : j = k := by omega
      subst e
      have hE : szM m j 20000 = m ^ j := if_pos hj.2
      (repeat (first | ((with_reducible refine rgn_cons rfl (fun K hK => ?_)); simp only [go_sem, seval, ↓reduceIte, decide_true, decide_false, show ¬ (0 : Int) < (j : Int) - (j : Int) by omega, decide_false]; (refine hK _ _ _ (by simp only [go_sem, Nat.reduceEqDiff, ↓reduceIte]; rfl) ?_); clear hK; clear K) | (with_reducible first | refine rgn_nil (by first | trivial | kernel_rfl) ?_ | refine AWP.seq ?_ | refine tX hC hP (by kernel_rfl) ?_ | refine aX hC hM hP (by kernel_rfl) ?_ | refine AWP.skip ?_ | refine AWP.label ?_ | refine AWP.exit ?_ | refine AWP.block ?_ | refine cTa ?_ | refine cFa ?_) | simp only [qS, Nat.reduceEqDiff, ↓reduceIte]))
      (refine AWP.ret ?_; refine retOk1 (by simp only [go_sem, seval, ↓reduceIte, decide_true, decide_false]; rfl) ?_)
      rw [hE, decide_eq_false (by omega)]
theorem at_app {a : List Int} {c : Int} {i : Nat} (hi : i < a.length) : at' (a ++ [c]) i = at' a i := by rw [at_snoc, if_pos hi]
/-- What fits, fits when it is cut. -/
theorem hmB_pref {M : Nat} (hm : 1 < M) {tf tg : Nat → Nat → Int} (h00 : tf 0 0 = 0) : ∀ (d : Nat) (p x : List Int), 1 ≤ p.length → at' p 0 = 0 → x ∈ al M d p → hmB (M : Int) x.length tf tg x = true → hmB (M : Int) p.length tf tg p = true
  | 0, p, x, _, _, hx, h => by
    rw [al, List.mem_singleton] at hx
    rw [← hx]; exact h
  | d + 1, p, x, h1, h0, hx, h => by
    rw [al, List.mem_flatMap] at hx
    obtain ⟨k, _, hx⟩ := hx
    have h2 := hmB_pref hm h00 d (p ++ [(k : Int)]) x (by simp) (by rw [at_app (by omega)]; exact h0) hx h
    have hl : (p ++ [(k : Int)]).length = p.length + 1 := by simp
    rw [hl] at h2
    exact hmB_cut (by omega) h1 rfl hl (fun i hi => at_app hi) h0 h00 (fun _ _ _ => rfl) (fun _ _ _ => rfl) h2
/-- A list of lists: none is nil. -/
def roT : List (List Int) → T
  | [] => .nil
  | x :: l => (.sl true 26 (rowsO (x :: l)))
def roS (v : Nat) : List (List Int) → Slot
  | [] => ⟨0, .val (.nil)⟩
  | x :: l => ⟨v, .own (.sl true 26 (rowsO (x :: l)))⟩
set_option maxHeartbeats 4000000 in
theorem c_spec_l06Grow (M D : Nat) (lf lg : List (List Int)) (hm : 1 < M) (hm2 : M ≤ 10000) (hD : 1 ≤ D) (hK2 : D ≤ 900) (hf : Pl (M : Int) (D + 1) lf) (hg : Pl (M : Int) (D + 1) lg) (h00 : pc lf 0 0 = 0) : ∀ (d : Nat) (a : List Int) (out : List (List Int)), a.length + d = D + 1 → 1 ≤ a.length → at' a 0 = 0 → (∀ z ∈ a, 0 ≤ z ∧ z < (M : Int)) → out.length + M ^ d ≤ 20000 → hmB (M : Int) a.length (pc lf) (pc lg) a = true →
    AFn Try.prog 32 [.agg [.int .i64 (M : Int), .sl false 26 (rowsF lf)], .agg [.int .i64 (M : Int), .sl false 26 (rowsF lg)], .sl false 2 (intL a), .int .i64 20000, roT out] (roT (out ++ (al M d a).filter (hmB (M : Int) (D + 1) (pc lf) (pc lg)))) := by
  intro d
  induction d with
  | zero =>
    intro a out hal h1 h0 ha ho hfit
    have hO := c_spec_l01Own_pt a (by omega)
    have e1 : (al M 0 a).filter (hmB (M : Int) (D + 1) (pc lf) (pc lg)) = [a] := by
      rw [al, List.filter_cons, if_pos (by rw [show D + 1 = a.length by omega]; exact hfit)]; rfl
    rw [e1]
    cases out with
    | nil =>
      simp only [roT, List.nil_append]
      refine AFn.of' ttOk (by decide) Try.func32 Try.ntmps32 (by rw [Try.results32]) (by rfl) (by rfl) (by simp) (by decide) (by simp only [go_sem, Nat.reduceAdd, ↓reduceIte]; rfl) mixed (fun C hP hM hC => ?_)
      (repeat (first | ((with_reducible refine rgn_cons rfl (fun K hK => ?_)); simp only [go_sem, seval, ↓reduceIte, decide_true, decide_false, rowsF_length, hf.len, show ((a.length : Int) == ((D + 1 : Nat) : Int)) = true by rw [beq_iff_eq]; omega]; (first | refine hK _ _ _ (by simp only [go_sem, Nat.reduceEqDiff, ↓reduceIte]; rfl) ?_ | refine ⟨_, hO, hK _ _ _ (by simp only [go_sem, Nat.reduceEqDiff, ↓reduceIte]; rfl) ?_⟩); clear hK; clear K) | (with_reducible first | refine rgn_nil (by first | trivial | kernel_rfl) ?_ | refine AWP.seq ?_ | refine tX hC hP (by kernel_rfl) ?_ | refine aX hC hM hP (by kernel_rfl) ?_ | refine AWP.skip ?_ | refine AWP.label ?_ | refine AWP.exit ?_ | refine AWP.block ?_ | refine cTa ?_ | refine cFa ?_) | simp only [qS, Nat.reduceEqDiff, ↓reduceIte]))
      (refine AWP.ret ?_; refine retOk1 (by simp only [go_sem, seval, ↓reduceIte, decide_true, decide_false]; rfl) ?_)
      rfl
    | cons y l =>
      simp only [roT, List.cons_append]
      simp only [List.length_cons] at ho
      refine AFn.of' ttOk (by decide) Try.func32 Try.ntmps32 (by rw [Try.results32]) (by rfl) (by rfl) (by simp) (by decide) (by simp only [go_sem, Nat.reduceAdd, ↓reduceIte, rowsO_noOwn, Bool.false_eq_true]; rfl) mixed (fun C hP hM hC => ?_)
      (repeat (first | ((with_reducible refine rgn_cons rfl (fun K hK => ?_)); simp only [go_sem, seval, ↓reduceIte, decide_true, decide_false, rowsF_length, hf.len, show ((a.length : Int) == ((D + 1 : Nat) : Int)) = true by rw [beq_iff_eq]; omega, rowsO_length, List.length_cons, show l.length + 1 + 1 ≤ 1099511627776 by omega, show (l.length + 1 + 1) * 24 ≤ 140737488355328 by omega, rowsO_snoc]; (first | refine hK _ _ _ (by simp only [go_sem, Nat.reduceEqDiff, ↓reduceIte]; rfl) ?_ | refine ⟨_, hO, hK _ _ _ (by simp only [go_sem, Nat.reduceEqDiff, ↓reduceIte]; rfl) ?_⟩); clear hK; clear K) | (with_reducible first | refine rgn_nil (by first | trivial | kernel_rfl) ?_ | refine AWP.seq ?_ | refine tX hC hP (by kernel_rfl) ?_ | refine aX hC hM hP (by kernel_rfl) ?_ | refine AWP.skip ?_ | refine AWP.label ?_ | refine AWP.exit ?_ | refine AWP.block ?_ | refine cTa ?_ | refine cFa ?_) | simp only [qS, Nat.reduceEqDiff, ↓reduceIte]))
      (refine AWP.ret ?_; refine retOk1 (by simp only [go_sem, seval, ↓reduceIte, decide_true, decide_false]; rfl) ?_)
      rfl
  | succ d ih =>
    intro a out hal h1 h0 ha ho hfit
    have hpw : M ^ (d + 1) = M * M ^ d := by rw [Nat.pow_succ, Nat.mul_comm]
    have hpos : 1 ≤ M ^ d := Nat.one_le_pow _ _ (by omega)
    have hal2 : (al M (d + 1) a) = alK M d a M := rfl
    rw [hal2]
    obtain ⟨Z, hZ⟩ : ∃ Z, Z = hmB (M : Int) (D + 1) (pc lf) (pc lg) := ⟨_, rfl⟩
    rw [← hZ] at ih ⊢
    have hall : ∀ c, ((alK M d a c).filter Z).length ≤ c * M ^ d := fun c => by
      refine Nat.le_trans (List.length_filter_le ..) ?_
      induction c with
      | zero => simp [alK_zero]
      | succ c ihc => rw [alK_succ, List.length_append, al_length, Nat.succ_mul]; omega
    have hnext : ∀ c : Nat, out ++ (alK M d a (c + 1)).filter Z = (out ++ (alK M d a c).filter Z) ++ (al M d (a ++ [(c : Int)])).filter Z := fun c => by
      rw [alK_succ, List.filter_append, List.append_assoc]
    have hnone : ∀ c : Nat, hmB (M : Int) (a.length + 1) (pc lf) (pc lg) (a ++ [(c : Int)]) = false → (al M d (a ++ [(c : Int)])).filter Z = [] := fun c hc => by
      rw [List.filter_eq_nil_iff]
      intro y hy hZy
      have hyl := (al_mem d _ y hy).1
      simp only [List.length_append, List.length_cons, List.length_nil, Nat.zero_add] at hyl
      rw [hZ, show D + 1 = y.length by omega] at hZy
      have := hmB_pref (by omega) h00 d (a ++ [(c : Int)]) y (by simp) (by rw [at_app (by omega)]; exact h0) hy hZy
      rw [show (a ++ [(c : Int)]).length = a.length + 1 by simp, hc] at this
      cases this
    have hO := c_spec_l01Own_pt a (by omega)
    have hC1 := c_spec_l03Cut (M : Int) lf (D + 1) a.length hf (by omega) (by omega)
    have hC2 := c_spec_l03Cut (M : Int) lg (D + 1) a.length hg (by omega) (by omega)
    refine AFn.of' (e := [(0, ⟨0, .val (.agg [.int .i64 (M : Int), .sl false 26 (rowsF lf)])⟩), (1, ⟨0, .val (.agg [.int .i64 (M : Int), .sl false 26 (rowsF lg)])⟩), (2, ⟨0, .val (.sl false 2 (intL a))⟩), (3, ⟨0, .val (.int .i64 20000)⟩), (4, roS 0 out)]) ttOk (by decide) Try.func32 Try.ntmps32 (by rw [Try.results32]) (by rfl) (by rfl) (by simp) (by decide) (by cases out <;> rfl) mixed (fun C hP hM hC => ?_)
    (repeat (first | ((with_reducible refine rgn_cons rfl (fun K hK => ?_)); simp only [go_sem, seval, ↓reduceIte, decide_true, decide_false, rowsF_length, hf.len, show ((a.length : Int) == ((D + 1 : Nat) : Int)) = false by rw [beq_eq_false_iff_ne]; omega]; (refine hK _ _ _ (by simp only [go_sem, Nat.reduceEqDiff, ↓reduceIte]; rfl) ?_); clear hK; clear K) | (with_reducible first | refine rgn_nil (by first | trivial | kernel_rfl) ?_ | refine AWP.seq ?_ | refine tX hC hP (by kernel_rfl) ?_ | refine aX hC hM hP (by kernel_rfl) ?_ | refine AWP.skip ?_ | refine AWP.label ?_ | refine AWP.exit ?_ | refine AWP.block ?_ | refine cTa ?_ | refine cFa ?_) | simp only [qS, Nat.reduceEqDiff, ↓reduceIte]))
    refine AWP.loop (fun w : Nat × Nat => [(4, roS w.2 (out ++ (alK M d a w.1).filter Z)), (12, ⟨0, .val (.int .i64 w.1)⟩), (11, ⟨0, .val (.int .i64 a.length)⟩), (2, ⟨0, .val (.sl false 2 (intL a))⟩), (3, ⟨0, .val (.int .i64 20000)⟩), (5, ⟨1, .own (.box 31 (.agg [.int .i64 (M : Int), .sl false 26 (rowsF lf)]))⟩), (6, ⟨1, .own (.box 31 (.agg [.int .i64 (M : Int), .sl false 26 (rowsF lg)]))⟩)]) (fun w => w.1 ≤ M) (fun w => M - w.1) (0, 0) (Nat.zero_le _) (fun w => by generalize out ++ (alK M d a w.1).filter Z = L; cases L <;> rfl) ?_ (fun w hw => ?_)
    · simp [Sub, lk, alK_zero]
    · obtain ⟨c, v⟩ := w
      simp only at hw ⊢
      have hLc := hall c
      obtain ⟨L, hL⟩ : ∃ L, out ++ (alK M d a c).filter Z = L := ⟨_, rfl⟩
      have hLl : L.length ≤ out.length + c * M ^ d := by rw [← hL, List.length_append]; omega
      by_cases hc : c < M
      · have hmul : (c + 1) * M ^ d ≤ M * M ^ d := Nat.mul_le_mul_right _ hc
        rw [Nat.succ_mul] at hmul
        have hnx := hnext c
        rw [hL] at hnx
        have hac : ∀ z ∈ a ++ [(c : Int)], 0 ≤ z ∧ z < (M : Int) := fun z hz => by
          rcases List.mem_append.1 hz with h | h
          · exact ha z h
          · rw [List.mem_singleton] at h; omega
        have hacl : (a ++ [(c : Int)]).length = a.length + 1 := by simp
        have hac0 : at' (a ++ [(c : Int)]) 0 = 0 := by rw [at_app (by omega)]; exact h0
        have hFt := c_spec_l06Fits (M : Int) (tab2 (a.length + 1) (pc lf)) (tab2 (a.length + 1) (pc lg)) (a ++ [(c : Int)]) (a.length + 1) (by omega) (by omega) (Pl.tab2 (by omega) fun i j _ => hf.num i j) (Pl.tab2 (by omega) fun i j _ => hg.num i j) hac hacl hac0 (by omega) (by omega)
        rw [hmB_tab (by omega) (tf := pc lf) (tg := pc lg) (fun u v h => pc_tab2 h) (fun u v h => pc_tab2 h)] at hFt
        obtain ⟨b, hb⟩ : ∃ b, hmB (M : Int) (a.length + 1) (pc lf) (pc lg) (a ++ [(c : Int)]) = b := ⟨_, rfl⟩
        rw [hb] at hFt
        rw [hL]
        cases L with
        | nil =>
          simp only [roS]
          (repeat (first | ((with_reducible refine rgn_cons rfl (fun K hK => ?_)); simp only [go_sem, seval, ↓reduceIte, decide_true, decide_false, show (c : Int) < (M : Int) by omega, decide_true, List.length_nil, show (0 : Int) < 20000 by omega, Nat.zero_add, intL_snoc, List.length_cons, show a.length + 1 ≤ 1099511627776 by omega, show (a.length + 1) * 8 ≤ 140737488355328 by omega]; (first | refine hK _ _ _ (by simp only [go_sem, Nat.reduceEqDiff, ↓reduceIte]; rfl) ?_ | refine ⟨_, hO, hK _ _ _ (by simp only [go_sem, Nat.reduceEqDiff, ↓reduceIte]; rfl) ?_⟩ | refine ⟨_, hC1, hK _ _ _ (by simp only [go_sem, Nat.reduceEqDiff, ↓reduceIte]; rfl) ?_⟩ | refine ⟨_, hC2, hK _ _ _ (by simp only [go_sem, Nat.reduceEqDiff, ↓reduceIte]; rfl) ?_⟩ | refine ⟨_, hFt, hK _ _ _ (by simp only [go_sem, Nat.reduceEqDiff, ↓reduceIte]; rfl) ?_⟩); clear hK; clear K) | (with_reducible first | refine rgn_nil (by first | trivial | kernel_rfl) ?_ | refine AWP.seq ?_ | refine tX hC hP (by kernel_rfl) ?_ | refine aX hC hM hP (by kernel_rfl) ?_ | refine AWP.skip ?_ | refine AWP.label ?_ | refine AWP.exit ?_ | refine AWP.block ?_ | refine cTa ?_ | refine cFa ?_) | simp only [qS, Nat.reduceEqDiff, ↓reduceIte]))
          refine AWP.frz (s := 13) rfl ?_
          simp only [go_sem]
          cases b with
          | false =>
            have hn := hnone c hb
            rw [hn] at hnx
            (repeat (first | ((with_reducible refine rgn_cons rfl (fun K hK => ?_)); simp only [go_sem, seval, ↓reduceIte, decide_true, decide_false, wid ((c : Int) + 1) (by omega) (by omega)]; (refine hK _ _ _ (by simp only [go_sem, Nat.reduceEqDiff, ↓reduceIte]; rfl) ?_); clear hK; clear K) | (with_reducible first | refine rgn_nil (by first | trivial | kernel_rfl) ?_ | refine AWP.seq ?_ | refine tX hC hP (by kernel_rfl) ?_ | refine aX hC hM hP (by kernel_rfl) ?_ | refine AWP.skip ?_ | refine AWP.label ?_ | refine AWP.exit ?_ | refine AWP.block ?_ | refine cTa ?_ | refine cFa ?_) | simp only [qS, Nat.reduceEqDiff, ↓reduceIte]))
            exact ⟨(c + 1, 0), by simp only; omega, by simp only; omega, by simp only [hnx]; simp [Sub, lk, roS]⟩
          | true =>
            have hih := ih (a ++ [(c : Int)]) [] (by omega) (by omega) hac0 hac (by simp only [List.length_nil]; omega) (by rw [hacl]; exact hb)
            simp only [List.nil_append] at hih hnx
            cases hR : (al M d (a ++ [(c : Int)])).filter Z with
            | nil =>
              rw [hR] at hih hnx
              simp only [roT] at hih
              (repeat (first | ((with_reducible refine rgn_cons rfl (fun K hK => ?_)); simp only [go_sem, seval, ↓reduceIte, decide_true, decide_false, wid ((c : Int) + 1) (by omega) (by omega)]; (first | refine hK _ _ _ (by simp only [go_sem, Nat.reduceEqDiff, ↓reduceIte]; rfl) ?_ | refine ⟨_, hih, hK _ _ _ (by simp only [go_sem, Nat.reduceEqDiff, ↓reduceIte]; rfl) ?_⟩); clear hK; clear K) | (with_reducible first | refine rgn_nil (by first | trivial | kernel_rfl) ?_ | refine AWP.seq ?_ | refine tX hC hP (by kernel_rfl) ?_ | refine aX hC hM hP (by kernel_rfl) ?_ | refine AWP.skip ?_ | refine AWP.label ?_ | refine AWP.exit ?_ | refine AWP.block ?_ | refine cTa ?_ | refine cFa ?_) | simp only [qS, Nat.reduceEqDiff, ↓reduceIte]))
              exact ⟨(c + 1, 0), by simp only; omega, by simp only; omega, by simp only [hnx]; simp [Sub, lk, roS]⟩
            | cons r R =>
              rw [hR] at hih hnx
              simp only [roT] at hih
              (repeat (first | ((with_reducible refine rgn_cons rfl (fun K hK => ?_)); simp only [go_sem, seval, ↓reduceIte, decide_true, decide_false, wid ((c : Int) + 1) (by omega) (by omega), rowsO_noOwn]; (first | refine hK _ _ _ (by simp only [go_sem, Nat.reduceEqDiff, ↓reduceIte]; rfl) ?_ | refine ⟨_, hih, hK _ _ _ (by simp only [go_sem, Nat.reduceEqDiff, ↓reduceIte]; rfl) ?_⟩); clear hK; clear K) | (with_reducible first | refine rgn_nil (by first | trivial | kernel_rfl) ?_ | refine AWP.seq ?_ | refine tX hC hP (by kernel_rfl) ?_ | refine aX hC hM hP (by kernel_rfl) ?_ | refine AWP.skip ?_ | refine AWP.label ?_ | refine AWP.exit ?_ | refine AWP.block ?_ | refine cTa ?_ | refine cFa ?_) | simp only [qS, Nat.reduceEqDiff, ↓reduceIte]))
              exact ⟨(c + 1, 1), by simp only; omega, by simp only; omega, by simp only [hnx]; simp [Sub, lk, roS]⟩
        | cons y l =>
          simp only [List.length_cons] at hLl
          simp only [roS]
          (repeat (first | ((with_reducible refine rgn_cons rfl (fun K hK => ?_)); simp only [go_sem, seval, ↓reduceIte, decide_true, decide_false, show (c : Int) < (M : Int) by omega, decide_true, rowsO_length, List.length_cons, show ((l.length + 1 : Nat) : Int) < 20000 by omega, Nat.zero_add, List.length_nil, intL_snoc, show a.length + 1 ≤ 1099511627776 by omega, show (a.length + 1) * 8 ≤ 140737488355328 by omega]; (first | refine hK _ _ _ (by simp only [go_sem, Nat.reduceEqDiff, ↓reduceIte]; rfl) ?_ | refine ⟨_, hO, hK _ _ _ (by simp only [go_sem, Nat.reduceEqDiff, ↓reduceIte]; rfl) ?_⟩ | refine ⟨_, hC1, hK _ _ _ (by simp only [go_sem, Nat.reduceEqDiff, ↓reduceIte]; rfl) ?_⟩ | refine ⟨_, hC2, hK _ _ _ (by simp only [go_sem, Nat.reduceEqDiff, ↓reduceIte]; rfl) ?_⟩ | refine ⟨_, hFt, hK _ _ _ (by simp only [go_sem, Nat.reduceEqDiff, ↓reduceIte]; rfl) ?_⟩); clear hK; clear K) | (with_reducible first | refine rgn_nil (by first | trivial | kernel_rfl) ?_ | refine AWP.seq ?_ | refine tX hC hP (by kernel_rfl) ?_ | refine aX hC hM hP (by kernel_rfl) ?_ | refine AWP.skip ?_ | refine AWP.label ?_ | refine AWP.exit ?_ | refine AWP.block ?_ | refine cTa ?_ | refine cFa ?_) | simp only [qS, Nat.reduceEqDiff, ↓reduceIte]))
          refine AWP.frz (s := 13) rfl ?_
          simp only [go_sem]
          cases b with
          | false =>
            have hn := hnone c hb
            rw [hn, List.append_nil] at hnx
            (repeat (first | ((with_reducible refine rgn_cons rfl (fun K hK => ?_)); simp only [go_sem, seval, ↓reduceIte, decide_true, decide_false, wid ((c : Int) + 1) (by omega) (by omega)]; (refine hK _ _ _ (by simp only [go_sem, Nat.reduceEqDiff, ↓reduceIte]; rfl) ?_); clear hK; clear K) | (with_reducible first | refine rgn_nil (by first | trivial | kernel_rfl) ?_ | refine AWP.seq ?_ | refine tX hC hP (by kernel_rfl) ?_ | refine aX hC hM hP (by kernel_rfl) ?_ | refine AWP.skip ?_ | refine AWP.label ?_ | refine AWP.exit ?_ | refine AWP.block ?_ | refine cTa ?_ | refine cFa ?_) | simp only [qS, Nat.reduceEqDiff, ↓reduceIte]))
            exact ⟨(c + 1, v), by simp only; omega, by simp only; omega, by simp only [hnx]; simp [Sub, lk, roS]⟩
          | true =>
            have hih := ih (a ++ [(c : Int)]) (y :: l) (by omega) (by omega) hac0 hac (by simp only [List.length_cons]; omega) (by rw [hacl]; exact hb)
            simp only [List.cons_append] at hih hnx
            simp only [roT] at hih
            (repeat (first | ((with_reducible refine rgn_cons rfl (fun K hK => ?_)); simp only [go_sem, seval, ↓reduceIte, decide_true, decide_false, wid ((c : Int) + 1) (by omega) (by omega), rowsO_noOwn]; (first | refine hK _ _ _ (by simp only [go_sem, Nat.reduceEqDiff, ↓reduceIte]; rfl) ?_ | refine ⟨_, hih, hK _ _ _ (by simp only [go_sem, Nat.reduceEqDiff, ↓reduceIte]; rfl) ?_⟩); clear hK; clear K) | (with_reducible first | refine rgn_nil (by first | trivial | kernel_rfl) ?_ | refine AWP.seq ?_ | refine tX hC hP (by kernel_rfl) ?_ | refine aX hC hM hP (by kernel_rfl) ?_ | refine AWP.skip ?_ | refine AWP.label ?_ | refine AWP.exit ?_ | refine AWP.block ?_ | refine cTa ?_ | refine cFa ?_) | simp only [qS, Nat.reduceEqDiff, ↓reduceIte]))
            exact ⟨(c + 1, v + 1), by simp only; omega, by simp only; omega, by simp only [hnx]; simp [Sub, lk, roS]⟩
      · have e : c = M := by omega
        subst e
        rw [hL]
        cases L with
        | nil =>
          simp only [roS, roT]
          (repeat (first | ((with_reducible refine rgn_cons rfl (fun K hK => ?_)); simp only [go_sem, seval, ↓reduceIte, decide_true, decide_false, show ¬ (c : Int) < (c : Int) by omega, decide_false]; (refine hK _ _ _ (by simp only [go_sem, Nat.reduceEqDiff, ↓reduceIte]; rfl) ?_); clear hK; clear K) | (with_reducible first | refine rgn_nil (by first | trivial | kernel_rfl) ?_ | refine AWP.seq ?_ | refine tX hC hP (by kernel_rfl) ?_ | refine aX hC hM hP (by kernel_rfl) ?_ | refine AWP.skip ?_ | refine AWP.label ?_ | refine AWP.exit ?_ | refine AWP.block ?_ | refine cTa ?_ | refine cFa ?_) | simp only [qS, Nat.reduceEqDiff, ↓reduceIte]))
          (refine AWP.ret ?_; refine retOk1 (by simp only [go_sem, seval, ↓reduceIte, decide_true, decide_false]; rfl) ?_)
          rfl
        | cons y l =>
          simp only [roS, roT]
          (repeat (first | ((with_reducible refine rgn_cons rfl (fun K hK => ?_)); simp only [go_sem, seval, ↓reduceIte, decide_true, decide_false, show ¬ (c : Int) < (c : Int) by omega, decide_false]; (refine hK _ _ _ (by simp only [go_sem, Nat.reduceEqDiff, ↓reduceIte]; rfl) ?_); clear hK; clear K) | (with_reducible first | refine rgn_nil (by first | trivial | kernel_rfl) ?_ | refine AWP.seq ?_ | refine tX hC hP (by kernel_rfl) ?_ | refine aX hC hM hP (by kernel_rfl) ?_ | refine AWP.skip ?_ | refine AWP.label ?_ | refine AWP.exit ?_ | refine AWP.block ?_ | refine cTa ?_ | refine cFa ?_) | simp only [qS, Nat.reduceEqDiff, ↓reduceIte]))
          (refine AWP.ret ?_; refine retOk1 (by simp only [go_sem, seval, ↓reduceIte, decide_true, decide_false]; rfl) ?_)
          rfl
theorem al_cons (M : Nat) (c : Int) : ∀ d p, al M d (c :: p) = (al M d p).map (c :: ·)
  | 0, p => rfl
  | d + 1, p => by
    rw [al, al, List.map_flatMap]
    exact congrArg (fun f => (List.range M).flatMap f) (funext fun k => by rw [List.cons_append, al_cons M c d])
theorem find_two (Z U : List Int → Bool) (c : Int) : ∀ l : List (List Int), ((l.map (c :: ·)).filter Z).find? U = (l.find? (fun x => U (c :: x) && Z (c :: x))).map (c :: ·)
  | [] => rfl
  | x :: l => by
    rw [List.map_cons, List.filter_cons, List.find?_cons]
    cases h1 : Z (c :: x) with
    | false =>
      rw [Bool.and_false]
      simp only [Bool.false_eq_true, if_false]
      exact find_two Z U c l
    | true =>
      rw [Bool.and_true]
      simp only [if_true]
      rw [List.find?_cons]
      cases h2 : U (c :: x) with
      | true => rfl
      | false => exact find_two Z U c l
/-- The homomorphisms, in order. -/
def homs (M D : Nat) (tf tg : Nat → Nat → Int) : List (List Int) := (al M D [0]).filter (hmB (M : Int) (D + 1) tf tg)
theorem homs_find (M D : Nat) (tf tg : Nat → Nat → Int) : (homs M D tf tg).find? (fun y => unB M (at' y 1)) = (isoF M D tf tg).map (0 :: ·) := by
  rw [homs, al_cons, find_two]
  rfl
theorem homs_mem {M D : Nat} {tf tg : Nat → Nat → Int} {y : List Int} (hm : 1 < M) (h : y ∈ homs M D tf tg) : y.length = D + 1 ∧ ∀ z ∈ y, 0 ≤ z ∧ z < (M : Int) := by
  rw [homs, List.mem_filter] at h
  obtain ⟨h1, _, h3⟩ := al_mem _ _ _ h.1
  simp only [List.length_cons, List.length_nil] at h1
  exact ⟨by omega, h3 fun z hz => by rw [List.mem_singleton] at hz; omega⟩
set_option maxHeartbeats 1000000 in
theorem c_spec_l06All_ok (M D : Nat) (la lb : List (List Int)) (ha : Sm la) (hb : Sm lb) (h : twC (M : Int) la (M : Int) lb = 0) (hD : la.length = D + 1) (hz : szM M D 20000 ≠ 20001) (X : List (List Int)) (hX : homs M D (pc la) (pc lb) = X) : AFn Try.prog 14 [.agg [.int .i64 (M : Int), .sl false 26 (rowsF la)], .agg [.int .i64 (M : Int), .sl false 26 (rowsF lb)], .sl false 2 [.int .i64 0], .int .i64 20000] (.tup [roT X, .int .i64 0]) := by
  refine AFn.of' ttOk (by decide) Try.func14 Try.ntmps14 (by rw [Try.results14]) (by rfl) (by rfl) (by simp) (by decide) (by simp only [go_sem, Nat.reduceAdd, ↓reduceIte]; rfl) mixed (fun C hP hM hC => ?_)
  obtain ⟨l1, l2, _, hll⟩ := twC_zero h
  have hl := isPl_of (lawB_of l1).1
  have hl2 := isPl_of (lawB_of l2).1
  have hw1 := (lawB_of l1).2
  have hw2 := (lawB_of l2).2
  have h00 : pc la 0 0 = 0 := by
    have := hw1.1 0 (by omega)
    rwa [ok1, if_neg (by omega)] at this
  have g00 : pc lb 0 0 = 0 := by
    have := hw2.1 0 (by omega)
    rwa [ok1, if_neg (by omega)] at this
  have hA := c_spec_l04Two (M : Int) (M : Int) la lb ha hb
  rw [h] at hA
  have hB := c_spec_l06Large M D (by omega) (by omega) (by omega)
  rw [decide_eq_false hz] at hB
  have hzz : M ^ D ≤ 20000 := by
    unfold szM at hz
    split at hz
    · assumption
    · omega
  have hG := c_spec_l06Grow M D la lb (by omega) (by omega) (by omega) (by omega) (by rw [← hD]; exact hl.2.2.2.2) (by rw [← hD, hll]; exact hl2.2.2.2.2) h00 D [0] [] (by simp; omega) (by simp) rfl (fun z hz => by rw [List.mem_singleton] at hz; omega) (by simp only [List.length_nil]; omega) (by
    rw [hmB_iff (by omega)]
    intro u v huv
    simp only [List.length_cons, List.length_nil] at huv
    have hu : u = 0 := by omega
    have hv : v = 0 := by omega
    subst hu; subst hv
    simp [sm, sij, at', g00])
  rw [List.nil_append, ← homs, hX] at hG
  simp only [roT] at hG
  rw [show intL [0] = [T.int .i64 0] from rfl] at hG
  have w1 : IntKind.i64.wrap (((D + 1 : Nat) : Int) - 1) = (D : Int) := by rw [wid _ (by omega) (by omega)]; omega
  cases X with
  | nil =>
    simp only [roT] at hG ⊢
    (repeat (first | ((with_reducible refine rgn_cons rfl (fun K hK => ?_)); simp only [go_sem, seval, ↓reduceIte, decide_true, decide_false, show ((0 : Int) != 0) = false from rfl, rowsF_length, hD, List.length_cons, List.length_nil, w1, show ((1 : Int) == 2) = false from rfl, show (((0 + 1 : Nat) : Int) == 2) = false from rfl]; (first | refine hK _ _ _ (by simp only [go_sem, Nat.reduceEqDiff, ↓reduceIte]; rfl) ?_ | refine ⟨_, hA, hK _ _ _ (by simp only [go_sem, Nat.reduceEqDiff, ↓reduceIte]; rfl) ?_⟩ | refine ⟨_, hB, hK _ _ _ (by simp only [go_sem, Nat.reduceEqDiff, ↓reduceIte]; rfl) ?_⟩ | refine ⟨_, hG, hK _ _ _ (by simp only [go_sem, Nat.reduceEqDiff, ↓reduceIte]; rfl) ?_⟩); clear hK; clear K) | (with_reducible first | refine rgn_nil (by first | trivial | kernel_rfl) ?_ | refine AWP.seq ?_ | refine tX hC hP (by kernel_rfl) ?_ | refine aX hC hM hP (by kernel_rfl) ?_ | refine AWP.skip ?_ | refine AWP.label ?_ | refine AWP.exit ?_ | refine AWP.block ?_ | refine cTa ?_ | refine cFa ?_) | simp only [qS, Nat.reduceEqDiff, ↓reduceIte]))
    (refine AWP.ret ?_; refine retOk2 (by simp only [go_sem, seval, ↓reduceIte, decide_true, decide_false]; rfl) (by simp only [go_sem, seval, ↓reduceIte, decide_true, decide_false]; rfl) (by simp) ?_)
    rfl
  | cons x l =>
    simp only [roT] at hG ⊢
    (repeat (first | ((with_reducible refine rgn_cons rfl (fun K hK => ?_)); simp only [go_sem, seval, ↓reduceIte, decide_true, decide_false, show ((0 : Int) != 0) = false from rfl, rowsF_length, hD, List.length_cons, List.length_nil, w1, show ((1 : Int) == 2) = false from rfl, show (((0 + 1 : Nat) : Int) == 2) = false from rfl, rowsO_noOwn]; (first | refine hK _ _ _ (by simp only [go_sem, Nat.reduceEqDiff, ↓reduceIte]; rfl) ?_ | refine ⟨_, hA, hK _ _ _ (by simp only [go_sem, Nat.reduceEqDiff, ↓reduceIte]; rfl) ?_⟩ | refine ⟨_, hB, hK _ _ _ (by simp only [go_sem, Nat.reduceEqDiff, ↓reduceIte]; rfl) ?_⟩ | refine ⟨_, hG, hK _ _ _ (by simp only [go_sem, Nat.reduceEqDiff, ↓reduceIte]; rfl) ?_⟩); clear hK; clear K) | (with_reducible first | refine rgn_nil (by first | trivial | kernel_rfl) ?_ | refine AWP.seq ?_ | refine tX hC hP (by kernel_rfl) ?_ | refine aX hC hM hP (by kernel_rfl) ?_ | refine AWP.skip ?_ | refine AWP.label ?_ | refine AWP.exit ?_ | refine AWP.block ?_ | refine cTa ?_ | refine cFa ?_) | simp only [qS, Nat.reduceEqDiff, ↓reduceIte]))
    (refine AWP.ret ?_; refine retOk2 (by simp only [go_sem, seval, ↓reduceIte, decide_true, decide_false]; rfl) (by simp only [go_sem, seval, ↓reduceIte, decide_true, decide_false]; rfl) (by simp) ?_)
    rfl
set_option maxHeartbeats 1000000 in
theorem c_spec_l06All_two (m n : Int) (la lb : List (List Int)) (ha : Sm la) (hb : Sm lb) (h : twC m la n lb ≠ 0) : AFn Try.prog 14 [.agg [.int .i64 m, .sl false 26 (rowsF la)], .agg [.int .i64 n, .sl false 26 (rowsF lb)], .sl false 2 [.int .i64 0], .int .i64 20000] (.tup [.nil, .int .i64 (twC m la n lb)]) := by
  refine AFn.of' ttOk (by decide) Try.func14 Try.ntmps14 (by rw [Try.results14]) (by rfl) (by rfl) (by simp) (by decide) (by simp only [go_sem, Nat.reduceAdd, ↓reduceIte]; rfl) mixed (fun C hP hM hC => ?_)
  have hA := c_spec_l04Two m n la lb ha hb
  (repeat (first | ((with_reducible refine rgn_cons rfl (fun K hK => ?_)); simp only [go_sem, seval, ↓reduceIte, decide_true, decide_false, show (twC m la n lb != 0) = true by rw [bne_iff_ne]; exact h]; (first | refine hK _ _ _ (by simp only [go_sem, Nat.reduceEqDiff, ↓reduceIte]; rfl) ?_ | refine ⟨_, hA, hK _ _ _ (by simp only [go_sem, Nat.reduceEqDiff, ↓reduceIte]; rfl) ?_⟩); clear hK; clear K) | (with_reducible first | refine rgn_nil (by first | trivial | kernel_rfl) ?_ | refine AWP.seq ?_ | refine tX hC hP (by kernel_rfl) ?_ | refine aX hC hM hP (by kernel_rfl) ?_ | refine AWP.skip ?_ | refine AWP.label ?_ | refine AWP.exit ?_ | refine AWP.block ?_ | refine cTa ?_ | refine cFa ?_) | simp only [qS, Nat.reduceEqDiff, ↓reduceIte]))
  (refine AWP.ret ?_; refine retOk2 (by simp only [go_sem, seval, ↓reduceIte, decide_true, decide_false]; rfl) (by simp only [go_sem, seval, ↓reduceIte, decide_true, decide_false]; rfl) (by simp) ?_)
  rfl
set_option maxHeartbeats 1000000 in
theorem c_spec_l06All_big (M D : Nat) (la lb : List (List Int)) (ha : Sm la) (hb : Sm lb) (h : twC (M : Int) la (M : Int) lb = 0) (hD : la.length = D + 1) (hz : szM M D 20000 = 20001) : AFn Try.prog 14 [.agg [.int .i64 (M : Int), .sl false 26 (rowsF la)], .agg [.int .i64 (M : Int), .sl false 26 (rowsF lb)], .sl false 2 [.int .i64 0], .int .i64 20000] (.tup [.nil, .int .i64 3]) := by
  refine AFn.of' ttOk (by decide) Try.func14 Try.ntmps14 (by rw [Try.results14]) (by rfl) (by rfl) (by simp) (by decide) (by simp only [go_sem, Nat.reduceAdd, ↓reduceIte]; rfl) mixed (fun C hP hM hC => ?_)
  obtain ⟨l1, l2, _, hll⟩ := twC_zero h
  have hl := isPl_of (lawB_of l1).1
  have hA := c_spec_l04Two (M : Int) (M : Int) la lb ha hb
  rw [h] at hA
  have hB := c_spec_l06Large M D (by omega) (by omega) (by omega)
  rw [decide_eq_true hz] at hB
  have w1 : IntKind.i64.wrap (((D + 1 : Nat) : Int) - 1) = (D : Int) := by rw [wid _ (by omega) (by omega)]; omega
  (repeat (first | ((with_reducible refine rgn_cons rfl (fun K hK => ?_)); simp only [go_sem, seval, ↓reduceIte, decide_true, decide_false, show ((0 : Int) != 0) = false from rfl, rowsF_length, hD, List.length_cons, List.length_nil, w1]; (first | refine hK _ _ _ (by simp only [go_sem, Nat.reduceEqDiff, ↓reduceIte]; rfl) ?_ | refine ⟨_, hA, hK _ _ _ (by simp only [go_sem, Nat.reduceEqDiff, ↓reduceIte]; rfl) ?_⟩ | refine ⟨_, hB, hK _ _ _ (by simp only [go_sem, Nat.reduceEqDiff, ↓reduceIte]; rfl) ?_⟩); clear hK; clear K) | (with_reducible first | refine rgn_nil (by first | trivial | kernel_rfl) ?_ | refine AWP.seq ?_ | refine tX hC hP (by kernel_rfl) ?_ | refine aX hC hM hP (by kernel_rfl) ?_ | refine AWP.skip ?_ | refine AWP.label ?_ | refine AWP.exit ?_ | refine AWP.block ?_ | refine cTa ?_ | refine cFa ?_) | simp only [qS, Nat.reduceEqDiff, ↓reduceIte]))
  (refine AWP.ret ?_; refine retOk2 (by simp only [go_sem, seval, ↓reduceIte, decide_true, decide_false]; rfl) (by simp only [go_sem, seval, ↓reduceIte, decide_true, decide_false]; rfl) (by simp) ?_)
  rfl
theorem find_at {U : List Int → Bool} {y : List Int} : ∀ (l : List (List Int)), l.find? U = some y → ∃ i, i < l.length ∧ l.getD i [] = y ∧ U y = true ∧ ∀ j, j < i → U (l.getD j []) = false
  | [], h => by simp at h
  | x :: l, h => by
    rw [List.find?_cons] at h
    cases hu : U x with
    | true =>
      rw [hu] at h
      injection h with h
      subst h
      exact ⟨0, by simp, rfl, hu, fun j hj => by omega⟩
    | false =>
      rw [hu] at h
      obtain ⟨i, h1, h2, h3, h4⟩ := find_at l h
      refine ⟨i + 1, by simp; omega, by simpa using h2, h3, fun j hj => ?_⟩
      cases j with
      | zero => exact hu
      | succ j => simpa using h4 j (by omega)
theorem getD_mem' {l : List (List Int)} {i : Nat} (h : i < l.length) : l.getD i [] ∈ l := by
  rw [List.getD_eq_getElem?_getD, List.getElem?_eq_getElem h]
  exact List.getElem_mem h
set_option maxHeartbeats 2000000 in
theorem c_spec_IsomorphismOf_ok (m n : Int) (la lb : List (List Int)) (ha : Sm la) (hb : Sm lb) (hc : isoC m la n lb = 0) : AFn Try.prog 5 [.agg [.int .i64 m, .sl false 26 (rowsF la)], .agg [.int .i64 n, .sl false 26 (rowsF lb)]] (.tup [.agg [.int .i64 m, .sl true 2 (intL (isoV m la lb))], .int .i64 0]) := by
  refine AFn.of' ttOk (by decide) Try.func5 Try.ntmps5 (by rw [Try.results5]) (by rfl) (by rfl) (by simp) (by decide) (by simp only [go_sem, Nat.reduceAdd, ↓reduceIte]; rfl) mixed (fun C hP hM hC => ?_)
  obtain ⟨h1, h2, x, hx⟩ := isoC_zero hc
  obtain ⟨l1, l2, hmn, hll⟩ := twC_zero h1
  have hl := isPl_of (lawB_of l1).1
  obtain ⟨M, rfl⟩ := Int.eq_ofNat_of_zero_le (show 0 ≤ m by omega)
  obtain ⟨D, hD⟩ : ∃ D, la.length = D + 1 := ⟨la.length - 1, by omega⟩
  subst hmn
  rw [hD, Nat.add_sub_cancel, Int.toNat_natCast] at h2
  rw [Int.toNat_natCast, hD, Nat.add_sub_cancel] at hx
  have hV : isoV (M : Int) la lb = 0 :: x := by rw [isoV, Int.toNat_natCast, hD, Nat.add_sub_cancel, hx]; rfl
  obtain ⟨X, hX⟩ : ∃ X, homs M D (pc la) (pc lb) = X := ⟨_, rfl⟩
  have hA := c_spec_l06All_ok M D la lb ha hb h1 hD h2 X hX
  have hfd := homs_find M D (pc la) (pc lb)
  rw [hX, hx] at hfd
  obtain ⟨i1, hi1, hi2, hi3, hi4⟩ := find_at X hfd
  have hXl : X.length ≤ 100000 := by
    have h9 : (homs M D (pc la) (pc lb)).length ≤ M ^ D := by
      rw [homs, ← al_length M D [0]]
      exact List.length_filter_le ..
    rw [hX] at h9
    unfold szM at h2
    split at h2 <;> omega
  have hmem : ∀ y ∈ X, y.length = D + 1 ∧ ∀ z ∈ y, 0 ≤ z ∧ z < (M : Int) := fun y hy => homs_mem (by omega) (by rw [hX]; exact hy)
  rw [hV]
  have hXT : roT X = (.sl true 26 (rowsO X)) := by
    cases X with
    | nil => simp at hi1
    | cons y l => rfl
  have hXN : T.noOwnL (rowsO X) = false := by
    cases X with
    | nil => simp at hi1
    | cons y l => rfl
  rw [hXT] at hA
  (repeat (first | ((with_reducible refine rgn_cons rfl (fun K hK => ?_)); simp only [go_sem, seval, ↓reduceIte, decide_true, decide_false, show ((0 : Int) != 0) = false from rfl, hXN]; (first | refine hK _ _ _ (by simp only [go_sem, Nat.reduceEqDiff, ↓reduceIte]; rfl) ?_ | refine ⟨_, hA, hK _ _ _ (by simp only [go_sem, Nat.reduceEqDiff, ↓reduceIte]; rfl) ?_⟩); clear hK; clear K) | (with_reducible first | refine rgn_nil (by first | trivial | kernel_rfl) ?_ | refine AWP.seq ?_ | refine tX hC hP (by kernel_rfl) ?_ | refine aX hC hM hP (by kernel_rfl) ?_ | refine AWP.skip ?_ | refine AWP.label ?_ | refine AWP.exit ?_ | refine AWP.block ?_ | refine cTa ?_ | refine cFa ?_) | simp only [qS, Nat.reduceEqDiff, ↓reduceIte]))
  refine AWP.loop (fun i : Nat => [(8, ⟨0, .val (.int .i64 i)⟩), (6, ⟨1, .own (.sl true 26 (rowsO X))⟩), (2, ⟨1, .own (.box 31 (.agg [.int .i64 (M : Int), .sl false 26 (rowsF la)]))⟩), (4, ⟨1, .own (.box 28 (.agg [.int .i64 0, .nil]))⟩)]) (fun i => i ≤ i1) (fun i => X.length - i) 0 (Nat.zero_le _) (fun i => rfl) ?_ (fun i hi => ?_)
  · simp [Sub, lk]
  · have HI : i < X.length := by omega
    obtain ⟨hyl, hyb⟩ := hmem _ (getD_mem' HI)
    have hb1 := at_bound hyb (show (0 : Int) < M by omega) 1
    obtain ⟨y1, hy1⟩ := Int.eq_ofNat_of_zero_le hb1.1
    have g1 : (X.getD i []).getD 1 0 = (y1 : Int) := hy1
    have hU := c_spec_l01Unit M y1 (by omega) (by omega)
    by_cases hlt : i < i1
    · have hu := hi4 i hlt
      rw [hy1] at hu
      rw [hu] at hU
      (repeat (first | ((with_reducible refine rgn_cons rfl (fun K hK => ?_)); simp only [go_sem, seval, ↓reduceIte, decide_true, decide_false, rowsO_length, show (i : Int) < (X.length : Int) by omega, decide_true, rowsO_at _ _ HI, rowsO_sizeT _ _ (Nat.le_of_lt HI), Int.toNat_natCast, Int.natCast_nonneg, Nat.mul_one, show (0 : Int) ≤ 1 by omega, show (1 : Int).toNat = 1 from rfl, show (1 : Int) < ((X.getD i []).length : Int) by omega, intL_get (X.getD i []) 1 (by omega), sizeL_take (X.getD i []) 1 (by omega), g1, wid ((i : Int) + 1) (by omega) (by omega)]; (first | refine hK _ _ _ (by simp only [go_sem, Nat.reduceEqDiff, ↓reduceIte]; rfl) ?_ | refine ⟨_, hU, hK _ _ _ (by simp only [go_sem, Nat.reduceEqDiff, ↓reduceIte]; rfl) ?_⟩); clear hK; clear K) | (with_reducible first | refine rgn_nil (by first | trivial | kernel_rfl) ?_ | refine AWP.seq ?_ | refine tX hC hP (by kernel_rfl) ?_ | refine aX hC hM hP (by kernel_rfl) ?_ | refine AWP.skip ?_ | refine AWP.label ?_ | refine AWP.exit ?_ | refine AWP.block ?_ | refine cTa ?_ | refine cFa ?_) | simp only [qS, Nat.reduceEqDiff, ↓reduceIte]))
      exact ⟨i + 1, hlt, by omega, by simp [Sub, lk]⟩
    · have e : i = i1 := by omega
      subst e
      have hu := hi3
      rw [← hi2, hy1] at hu
      rw [hu] at hU
      have hMk := c_spec_l02Make (M : Int) (X.getD i [])
      (repeat (first | ((with_reducible refine rgn_cons rfl (fun K hK => ?_)); simp only [go_sem, seval, ↓reduceIte, decide_true, decide_false, rowsO_length, show (i : Int) < (X.length : Int) by omega, decide_true, rowsO_at _ _ HI, rowsO_sizeT _ _ (Nat.le_of_lt HI), Int.toNat_natCast, Int.natCast_nonneg, Nat.mul_one, show (0 : Int) ≤ 1 by omega, show (1 : Int).toNat = 1 from rfl, show (1 : Int) < ((X.getD i []).length : Int) by omega, intL_get (X.getD i []) 1 (by omega), sizeL_take (X.getD i []) 1 (by omega), g1]; (first | refine hK _ _ _ (by simp only [go_sem, Nat.reduceEqDiff, ↓reduceIte]; rfl) ?_ | refine ⟨_, hU, hK _ _ _ (by simp only [go_sem, Nat.reduceEqDiff, ↓reduceIte]; rfl) ?_⟩ | refine ⟨_, hMk, hK _ _ _ (by simp only [go_sem, Nat.reduceEqDiff, ↓reduceIte]; rfl) ?_⟩); clear hK; clear K) | (with_reducible first | refine rgn_nil (by first | trivial | kernel_rfl) ?_ | refine AWP.seq ?_ | refine tX hC hP (by kernel_rfl) ?_ | refine aX hC hM hP (by kernel_rfl) ?_ | refine AWP.skip ?_ | refine AWP.label ?_ | refine AWP.exit ?_ | refine AWP.block ?_ | refine cTa ?_ | refine cFa ?_) | simp only [qS, Nat.reduceEqDiff, ↓reduceIte]))
      (refine AWP.ret ?_; refine retOk2 (by simp only [go_sem, seval, ↓reduceIte, decide_true, decide_false]; rfl) (by simp only [go_sem, seval, ↓reduceIte, decide_true, decide_false]; rfl) (by simp) ?_)
      rw [hi2]
set_option maxHeartbeats 2000000 in
theorem c_spec_IsomorphismOf_no (m n : Int) (la lb : List (List Int)) (ha : Sm la) (hb : Sm lb) (hc : isoC m la n lb ≠ 0) : AFn Try.prog 5 [.agg [.int .i64 m, .sl false 26 (rowsF la)], .agg [.int .i64 n, .sl false 26 (rowsF lb)]] (.tup [.agg [.int .i64 0, .nil], .int .i64 (isoC m la n lb)]) := by
  refine AFn.of' ttOk (by decide) Try.func5 Try.ntmps5 (by rw [Try.results5]) (by rfl) (by rfl) (by simp) (by decide) (by simp only [go_sem, Nat.reduceAdd, ↓reduceIte]; rfl) mixed (fun C hP hM hC => ?_)
  by_cases h1 : twC m la n lb = 0
  · obtain ⟨l1, l2, hmn, hll⟩ := twC_zero h1
    have hl := isPl_of (lawB_of l1).1
    obtain ⟨M, rfl⟩ := Int.eq_ofNat_of_zero_le (show 0 ≤ m by omega)
    obtain ⟨D, hD⟩ : ∃ D, la.length = D + 1 := ⟨la.length - 1, by omega⟩
    subst hmn
    have hcE : isoC (M : Int) la (M : Int) lb = if szM M D 20000 = 20001 then 3 else if (isoF M D (pc la) (pc lb)).isNone = true then 4 else 0 := by
      rw [isoC, if_pos h1, Int.toNat_natCast, hD, Nat.add_sub_cancel]
    by_cases h2 : szM M D 20000 = 20001
    · have hA := c_spec_l06All_big M D la lb ha hb h1 hD h2
      rw [if_pos h2] at hcE
      rw [hcE]
      (repeat (first | ((with_reducible refine rgn_cons rfl (fun K hK => ?_)); simp only [go_sem, seval, ↓reduceIte, decide_true, decide_false, show ((3 : Int) != 0) = true from rfl]; (first | refine hK _ _ _ (by simp only [go_sem, Nat.reduceEqDiff, ↓reduceIte]; rfl) ?_ | refine ⟨_, hA, hK _ _ _ (by simp only [go_sem, Nat.reduceEqDiff, ↓reduceIte]; rfl) ?_⟩); clear hK; clear K) | (with_reducible first | refine rgn_nil (by first | trivial | kernel_rfl) ?_ | refine AWP.seq ?_ | refine tX hC hP (by kernel_rfl) ?_ | refine aX hC hM hP (by kernel_rfl) ?_ | refine AWP.skip ?_ | refine AWP.label ?_ | refine AWP.exit ?_ | refine AWP.block ?_ | refine cTa ?_ | refine cFa ?_) | simp only [qS, Nat.reduceEqDiff, ↓reduceIte]))
      (refine AWP.ret ?_; refine retOk2 (by simp only [go_sem, seval, ↓reduceIte, decide_true, decide_false]; rfl) (by simp only [go_sem, seval, ↓reduceIte, decide_true, decide_false]; rfl) (by simp) ?_)
      rfl
    · rw [if_neg h2] at hcE
      have hx : isoF M D (pc la) (pc lb) = none := by
        cases hx : isoF M D (pc la) (pc lb) with
        | none => rfl
        | some x =>
          rw [hx] at hcE
          exact absurd hcE hc
      rw [hx] at hcE
      rw [hcE]
      obtain ⟨X, hX⟩ : ∃ X, homs M D (pc la) (pc lb) = X := ⟨_, rfl⟩
      have hA := c_spec_l06All_ok M D la lb ha hb h1 hD h2 X hX
      have hfd := homs_find M D (pc la) (pc lb)
      rw [hX, hx, Option.map_none, List.find?_eq_none] at hfd
      have hmem : ∀ y ∈ X, y.length = D + 1 ∧ ∀ z ∈ y, 0 ≤ z ∧ z < (M : Int) := fun y hy => homs_mem (by omega) (by rw [hX]; exact hy)
      by_cases hX0 : X = []
      · subst hX0
        simp only [roT] at hA
        (repeat (first | ((with_reducible refine rgn_cons rfl (fun K hK => ?_)); simp only [go_sem, seval, ↓reduceIte, decide_true, decide_false, show ((0 : Int) != 0) = false from rfl]; (first | refine hK _ _ _ (by simp only [go_sem, Nat.reduceEqDiff, ↓reduceIte]; rfl) ?_ | refine ⟨_, hA, hK _ _ _ (by simp only [go_sem, Nat.reduceEqDiff, ↓reduceIte]; rfl) ?_⟩); clear hK; clear K) | (with_reducible first | refine rgn_nil (by first | trivial | kernel_rfl) ?_ | refine AWP.seq ?_ | refine tX hC hP (by kernel_rfl) ?_ | refine aX hC hM hP (by kernel_rfl) ?_ | refine AWP.skip ?_ | refine AWP.label ?_ | refine AWP.exit ?_ | refine AWP.block ?_ | refine cTa ?_ | refine cFa ?_) | simp only [qS, Nat.reduceEqDiff, ↓reduceIte]))
        refine AWP.loop (fun _ : Unit => [(8, ⟨0, .val (.int .i64 0)⟩), (6, ⟨0, .val (.nil)⟩), (2, ⟨1, .own (.box 31 (.agg [.int .i64 (M : Int), .sl false 26 (rowsF la)]))⟩), (4, ⟨1, .own (.box 28 (.agg [.int .i64 0, .nil]))⟩)]) (fun _ => True) (fun _ => 0) () trivial (fun i => rfl) ?_ (fun i hi => ?_)
        · simp [Sub, lk]
        · (repeat (first | ((with_reducible refine rgn_cons rfl (fun K hK => ?_)); simp only [go_sem, seval, ↓reduceIte, decide_true, decide_false, List.length_nil, show ¬ (0 : Int) < 0 by omega, decide_false]; (refine hK _ _ _ (by simp only [go_sem, Nat.reduceEqDiff, ↓reduceIte]; rfl) ?_); clear hK; clear K) | (with_reducible first | refine rgn_nil (by first | trivial | kernel_rfl) ?_ | refine AWP.seq ?_ | refine tX hC hP (by kernel_rfl) ?_ | refine aX hC hM hP (by kernel_rfl) ?_ | refine AWP.skip ?_ | refine AWP.label ?_ | refine AWP.exit ?_ | refine AWP.block ?_ | refine cTa ?_ | refine cFa ?_) | simp only [qS, Nat.reduceEqDiff, ↓reduceIte]))
          (refine AWP.ret ?_; refine retOk2 (by simp only [go_sem, seval, ↓reduceIte, decide_true, decide_false]; rfl) (by simp only [go_sem, seval, ↓reduceIte, decide_true, decide_false]; rfl) (by simp) ?_)
          rfl
      · have hXT : roT X = (.sl true 26 (rowsO X)) := by
          cases X with
          | nil => exact absurd rfl hX0
          | cons y l => rfl
        have hXN : T.noOwnL (rowsO X) = false := by
          cases X with
          | nil => exact absurd rfl hX0
          | cons y l => rfl
        rw [hXT] at hA
        have hXl : X.length ≤ 100000 := by
          have h9 : (homs M D (pc la) (pc lb)).length ≤ M ^ D := by
            rw [homs, ← al_length M D [0]]
            exact List.length_filter_le ..
          rw [hX] at h9
          unfold szM at h2
          split at h2 <;> omega
        (repeat (first | ((with_reducible refine rgn_cons rfl (fun K hK => ?_)); simp only [go_sem, seval, ↓reduceIte, decide_true, decide_false, show ((0 : Int) != 0) = false from rfl, hXN]; (first | refine hK _ _ _ (by simp only [go_sem, Nat.reduceEqDiff, ↓reduceIte]; rfl) ?_ | refine ⟨_, hA, hK _ _ _ (by simp only [go_sem, Nat.reduceEqDiff, ↓reduceIte]; rfl) ?_⟩); clear hK; clear K) | (with_reducible first | refine rgn_nil (by first | trivial | kernel_rfl) ?_ | refine AWP.seq ?_ | refine tX hC hP (by kernel_rfl) ?_ | refine aX hC hM hP (by kernel_rfl) ?_ | refine AWP.skip ?_ | refine AWP.label ?_ | refine AWP.exit ?_ | refine AWP.block ?_ | refine cTa ?_ | refine cFa ?_) | simp only [qS, Nat.reduceEqDiff, ↓reduceIte]))
        refine AWP.loop (fun i : Nat => [(8, ⟨0, .val (.int .i64 i)⟩), (6, ⟨1, .own (.sl true 26 (rowsO X))⟩), (2, ⟨1, .own (.box 31 (.agg [.int .i64 (M : Int), .sl false 26 (rowsF la)]))⟩), (4, ⟨1, .own (.box 28 (.agg [.int .i64 0, .nil]))⟩)]) (fun i => i ≤ X.length) (fun i => X.length - i) 0 (Nat.zero_le _) (fun i => rfl) ?_ (fun i hi => ?_)
        · simp [Sub, lk]
        · by_cases HI : i < X.length
          · obtain ⟨hyl, hyb⟩ := hmem _ (getD_mem' HI)
            have hb1 := at_bound hyb (show (0 : Int) < M by omega) 1
            obtain ⟨y1, hy1⟩ := Int.eq_ofNat_of_zero_le hb1.1
            have g1 : (X.getD i []).getD 1 0 = (y1 : Int) := hy1
            have hU := c_spec_l01Unit M y1 (by omega) (by omega)
            have hu := hfd _ (getD_mem' HI)
            rw [hy1, Bool.not_eq_true] at hu
            rw [hu] at hU
            (repeat (first | ((with_reducible refine rgn_cons rfl (fun K hK => ?_)); simp only [go_sem, seval, ↓reduceIte, decide_true, decide_false, rowsO_length, show (i : Int) < (X.length : Int) by omega, decide_true, rowsO_at _ _ HI, rowsO_sizeT _ _ (Nat.le_of_lt HI), Int.toNat_natCast, Int.natCast_nonneg, Nat.mul_one, show (0 : Int) ≤ 1 by omega, show (1 : Int).toNat = 1 from rfl, show (1 : Int) < ((X.getD i []).length : Int) by omega, intL_get (X.getD i []) 1 (by omega), sizeL_take (X.getD i []) 1 (by omega), g1, wid ((i : Int) + 1) (by omega) (by omega)]; (first | refine hK _ _ _ (by simp only [go_sem, Nat.reduceEqDiff, ↓reduceIte]; rfl) ?_ | refine ⟨_, hU, hK _ _ _ (by simp only [go_sem, Nat.reduceEqDiff, ↓reduceIte]; rfl) ?_⟩); clear hK; clear K) | (with_reducible first | refine rgn_nil (by first | trivial | kernel_rfl) ?_ | refine AWP.seq ?_ | refine tX hC hP (by kernel_rfl) ?_ | refine aX hC hM hP (by kernel_rfl) ?_ | refine AWP.skip ?_ | refine AWP.label ?_ | refine AWP.exit ?_ | refine AWP.block ?_ | refine cTa ?_ | refine cFa ?_) | simp only [qS, Nat.reduceEqDiff, ↓reduceIte]))
            exact ⟨i + 1, HI, by omega, by simp [Sub, lk]⟩
          · have e : i = X.length := by omega
            subst e
            (repeat (first | ((with_reducible refine rgn_cons rfl (fun K hK => ?_)); simp only [go_sem, seval, ↓reduceIte, decide_true, decide_false, rowsO_length, show ¬ (X.length : Int) < (X.length : Int) by omega, decide_false]; (refine hK _ _ _ (by simp only [go_sem, Nat.reduceEqDiff, ↓reduceIte]; rfl) ?_); clear hK; clear K) | (with_reducible first | refine rgn_nil (by first | trivial | kernel_rfl) ?_ | refine AWP.seq ?_ | refine tX hC hP (by kernel_rfl) ?_ | refine aX hC hM hP (by kernel_rfl) ?_ | refine AWP.skip ?_ | refine AWP.label ?_ | refine AWP.exit ?_ | refine AWP.block ?_ | refine cTa ?_ | refine cFa ?_) | simp only [qS, Nat.reduceEqDiff, ↓reduceIte]))
            (refine AWP.ret ?_; refine retOk2 (by simp only [go_sem, seval, ↓reduceIte, decide_true, decide_false]; rfl) (by simp only [go_sem, seval, ↓reduceIte, decide_true, decide_false]; rfl) (by simp) ?_)
            rfl
  · have hA := c_spec_l06All_two m n la lb ha hb h1
    have hcE : isoC m la n lb = twC m la n lb := by rw [isoC, if_neg h1]
    rw [hcE]
    (repeat (first | ((with_reducible refine rgn_cons rfl (fun K hK => ?_)); simp only [go_sem, seval, ↓reduceIte, decide_true, decide_false, show (twC m la n lb != 0) = true by rw [bne_iff_ne]; exact h1]; (first | refine hK _ _ _ (by simp only [go_sem, Nat.reduceEqDiff, ↓reduceIte]; rfl) ?_ | refine ⟨_, hA, hK _ _ _ (by simp only [go_sem, Nat.reduceEqDiff, ↓reduceIte]; rfl) ?_⟩); clear hK; clear K) | (with_reducible first | refine rgn_nil (by first | trivial | kernel_rfl) ?_ | refine AWP.seq ?_ | refine tX hC hP (by kernel_rfl) ?_ | refine aX hC hM hP (by kernel_rfl) ?_ | refine AWP.skip ?_ | refine AWP.label ?_ | refine AWP.exit ?_ | refine AWP.block ?_ | refine cTa ?_ | refine cFa ?_) | simp only [qS, Nat.reduceEqDiff, ↓reduceIte]))
    (refine AWP.ret ?_; refine retOk2 (by simp only [go_sem, seval, ↓reduceIte, decide_true, decide_false]; rfl) (by simp only [go_sem, seval, ↓reduceIte, decide_true, decide_false]; rfl) (by simp) ?_)
    rfl

end Go.Proofs.Ytahnnangdepkbab

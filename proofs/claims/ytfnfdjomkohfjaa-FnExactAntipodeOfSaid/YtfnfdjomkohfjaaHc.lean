/-
  The series of a law; ranks.
-/
import Derived.Test.YtfnfdjomkohfjaaHb
namespace Go.Proofs.Ytfnfdjomkohfjaa
open Go.RowKit
set_option linter.unusedSimpArgs false
set_option linter.unusedVariables false
set_option linter.unusedSectionVars false
set_option maxRecDepth 20000
-- The series of a law; ranks.
def serH (P : List Int) (N d : Nat) : List Int := if N = 0 then [] else tab (d / N) (fun k => at' P ((k + 1) * N))
/-- The code of laws with a height, and the values of the unit and the rank. -/
noncomputable def unV (m : Int) (ll : List (List Int)) : Int := if hgC m ll = 0 then at' (pmL m ll) (htX m ll).1 else 0
noncomputable def rkV (m : Int) (ll : List (List Int)) : Int := if htC m ll = 0 then ((htX m ll).1 : Int) else 0
set_option maxHeartbeats 1000000 in
theorem c_spec_l17Rank (p N h d : Nat) (ll : List (List Int)) (hp : 2 ≤ p) (hp2 : p ≤ 7) (hl : Pl p (d + 1) ll) (hd1 : 1 ≤ d) (hd : d ≤ 10) (H : HtC p d (mzL p (pc ll) d (varL d) p) N h) : AFn Try.prog 73 [.agg [.int .i64 (p : Int), .sl false 25 (rowsF ll)]] (.int .i64 N) := by
  refine AFn.of' ttOk (by decide) Try.func73 Try.ntmps73 (by rw [Try.results73]) (by rfl) (by rfl) (by simp) (by decide) (by simp only [go_sem, Nat.reduceAdd, ↓reduceIte]; rfl) mixed (fun C hP hM hC => ?_)
  have f := mzL_facts (m := (p : Int)) (by omega) (pc ll) d (varL d) p
  have hW := c_spec_l04Of (p : Int) p ll d (by omega) (by omega) hl hd1 (by omega) (by omega) (by omega)
  generalize mzL (p : Int) (pc ll) d (varL d) p = P at *
  have hlen := f.1
  have hz : at' P 0 = 0 := by
    rcases H with ⟨_, _, h1⟩ | ⟨h0, h1, h2, _, h3⟩
    · exact h1 0
    · exact h3 0 (by rw [h1]; exact Nat.pow_pos (by omega))
  (repeat (first | ((with_reducible refine rgn_cons rfl (fun K hK => ?_)); simp only [go_sem, seval, ↓reduceIte, decide_true, decide_false]; (first | refine hK _ _ _ (by simp only [go_sem, Nat.reduceEqDiff, ↓reduceIte]; rfl) ?_ | refine ⟨_, hW, hK _ _ _ (by simp only [go_sem, Nat.reduceEqDiff, ↓reduceIte]; rfl) ?_⟩); clear hK; clear K) | (with_reducible first | refine rgn_nil (by first | trivial | kernel_rfl) ?_ | refine AWP.seq ?_ | refine tX hC hP (by kernel_rfl) ?_ | refine aX hC hM hP (by kernel_rfl) ?_ | refine AWP.skip ?_ | refine AWP.label ?_ | refine AWP.exit ?_ | refine AWP.block ?_ | refine cTa ?_ | refine cFa ?_) | simp only [qS, Nat.reduceEqDiff, ↓reduceIte]))
  refine AWP.loop (fun k : Nat => [(4, ⟨0, .val (.int .i64 ((k : Int) + 1))⟩), (3, ⟨1, .own (.sl true 2 (intL P))⟩)]) (fun k => k ≤ d ∧ ∀ j, j ≤ k → at' P j = 0) (fun k => d - k) 0 ⟨Nat.zero_le _, fun j hj => by rw [show j = 0 by omega]; exact hz⟩ (fun i => rfl) ?_ (fun k hk => ?_)
  · simp [Sub, lk, intL]
  · by_cases hlt : k < d
    · have k1 : k + 1 < P.length := by omega
      by_cases hx : at' P (k + 1) = 0
      · (repeat (first | ((with_reducible refine rgn_cons rfl (fun K hK => ?_)); simp only [go_sem, seval, ↓reduceIte, decide_true, decide_false, show (k : Int) + 1 < (P.length : Int) by omega, decide_true, show (0 : Int) ≤ (k : Int) + 1 by omega, show ((k : Int) + 1).toNat = k + 1 by omega, intL_get _ _ k1, sizeL_take _ _ (Nat.le_of_lt k1), Nat.mul_one, show P.getD (k + 1) 0 = at' P (k + 1) from rfl, hx, show ((0 : Int) != 0) = false from rfl, wid ((k : Int) + 1 + 1) (by omega) (by omega)]; (refine hK _ _ _ (by simp only [go_sem, Nat.reduceEqDiff, ↓reduceIte]; rfl) ?_); clear hK; clear K) | (with_reducible first | refine rgn_nil (by first | trivial | kernel_rfl) ?_ | refine AWP.seq ?_ | refine tX hC hP (by kernel_rfl) ?_ | refine aX hC hM hP (by kernel_rfl) ?_ | refine AWP.skip ?_ | refine AWP.label ?_ | refine AWP.exit ?_ | refine AWP.block ?_ | refine cTa ?_ | refine cFa ?_) | simp only [qS, Nat.reduceEqDiff, ↓reduceIte]))
        refine ⟨k + 1, ⟨hlt, fun j hj => ?_⟩, by omega, by simp [Sub, lk]⟩
        by_cases e : j = k + 1
        · rw [e]; exact hx
        · exact hk.2 j (by omega)
      · have hN : N = k + 1 := by
          rcases H with ⟨_, _, h1⟩ | ⟨h0, h1, h2, h4, h3⟩
          · exact absurd (h1 _) hx
          · by_cases e1 : N ≤ k
            · exact absurd (hk.2 N e1) h4
            · by_cases e2 : k + 1 < N
              · exact absurd (h3 _ e2) hx
              · omega
        (repeat (first | ((with_reducible refine rgn_cons rfl (fun K hK => ?_)); simp only [go_sem, seval, ↓reduceIte, decide_true, decide_false, show (k : Int) + 1 < (P.length : Int) by omega, decide_true, show (0 : Int) ≤ (k : Int) + 1 by omega, show ((k : Int) + 1).toNat = k + 1 by omega, intL_get _ _ k1, sizeL_take _ _ (Nat.le_of_lt k1), Nat.mul_one, show P.getD (k + 1) 0 = at' P (k + 1) from rfl, show (at' P (k + 1) != 0) = true by simpa using hx]; (refine hK _ _ _ (by simp only [go_sem, Nat.reduceEqDiff, ↓reduceIte]; rfl) ?_); clear hK; clear K) | (with_reducible first | refine rgn_nil (by first | trivial | kernel_rfl) ?_ | refine AWP.seq ?_ | refine tX hC hP (by kernel_rfl) ?_ | refine aX hC hM hP (by kernel_rfl) ?_ | refine AWP.skip ?_ | refine AWP.label ?_ | refine AWP.exit ?_ | refine AWP.block ?_ | refine cTa ?_ | refine cFa ?_) | simp only [qS, Nat.reduceEqDiff, ↓reduceIte]))
        (refine AWP.ret ?_; refine retOk1 (by simp only [go_sem, seval, ↓reduceIte, decide_true, decide_false]; rfl) ?_)
        rw [hN]; rfl
    · have hN : N = 0 := by
        rcases H with ⟨h1, _, _⟩ | ⟨h0, h1, h2, h4, h3⟩
        · exact h1
        · exact absurd (hk.2 N (by omega)) h4
      (repeat (first | ((with_reducible refine rgn_cons rfl (fun K hK => ?_)); simp only [go_sem, seval, ↓reduceIte, decide_true, decide_false, show ¬ (k : Int) + 1 < (P.length : Int) by omega, decide_false]; (refine hK _ _ _ (by simp only [go_sem, Nat.reduceEqDiff, ↓reduceIte]; rfl) ?_); clear hK; clear K) | (with_reducible first | refine rgn_nil (by first | trivial | kernel_rfl) ?_ | refine AWP.seq ?_ | refine tX hC hP (by kernel_rfl) ?_ | refine aX hC hM hP (by kernel_rfl) ?_ | refine AWP.skip ?_ | refine AWP.label ?_ | refine AWP.exit ?_ | refine AWP.block ?_ | refine cTa ?_ | refine cFa ?_) | simp only [qS, Nat.reduceEqDiff, ↓reduceIte]))
      (refine AWP.ret ?_; refine retOk1 (by simp only [go_sem, seval, ↓reduceIte, decide_true, decide_false]; rfl) ?_)
      rw [hN]; rfl
set_option maxHeartbeats 1000000 in
theorem c_spec_l17Code (m : Int) (ll : List (List Int)) (hs : Sm ll) : AFn Try.prog 38 [.agg [.int .i64 m, .sl false 25 (rowsF ll)], .bool false] (.tup [.int .i64 (rkV m ll), .int .i64 (hgC m ll)]) := by
  refine AFn.of' ttOk (by decide) Try.func38 Try.ntmps38 (by rw [Try.results38]) (by rfl) (by rfl) (by simp) (by decide) (by simp only [go_sem, Nat.reduceAdd, ↓reduceIte]; rfl) mixed (fun C hP hM hC => ?_)
  have hA := c_spec_l04Is m ll hs
  have hB := c_spec_l09Prime m
  cases hb : lawB m ll with
  | false =>
    have e : htC m ll = 1 := by simp [htC, hb]
    (repeat (first | ((with_reducible refine rgn_cons rfl (fun K hK => ?_)); simp only [go_sem, seval, ↓reduceIte, decide_true, decide_false, hb]; (first | refine hK _ _ _ (by simp only [go_sem, Nat.reduceEqDiff, ↓reduceIte]; rfl) ?_ | refine ⟨_, hA, hK _ _ _ (by simp only [go_sem, Nat.reduceEqDiff, ↓reduceIte]; rfl) ?_⟩); clear hK; clear K) | (with_reducible first | refine rgn_nil (by first | trivial | kernel_rfl) ?_ | refine AWP.seq ?_ | refine tX hC hP (by kernel_rfl) ?_ | refine aX hC hM hP (by kernel_rfl) ?_ | refine AWP.skip ?_ | refine AWP.label ?_ | refine AWP.exit ?_ | refine AWP.block ?_ | refine cTa ?_ | refine cFa ?_) | simp only [qS, Nat.reduceEqDiff, ↓reduceIte]))
    (refine AWP.ret ?_; refine retOk2 (by simp only [go_sem, seval, ↓reduceIte, decide_true, decide_false]; rfl) (by simp only [go_sem, seval, ↓reduceIte, decide_true, decide_false]; rfl) (by simp) ?_)
    simp [rkV, hgC, e]
  | true =>
    cases hp : prB m with
    | false =>
      have e : htC m ll = 5 := by simp [htC, hb, hp]
      (repeat (first | ((with_reducible refine rgn_cons rfl (fun K hK => ?_)); simp only [go_sem, seval, ↓reduceIte, decide_true, decide_false, hb, hp]; (first | refine hK _ _ _ (by simp only [go_sem, Nat.reduceEqDiff, ↓reduceIte]; rfl) ?_ | refine ⟨_, hA, hK _ _ _ (by simp only [go_sem, Nat.reduceEqDiff, ↓reduceIte]; rfl) ?_⟩ | refine ⟨_, hB, hK _ _ _ (by simp only [go_sem, Nat.reduceEqDiff, ↓reduceIte]; rfl) ?_⟩); clear hK; clear K) | (with_reducible first | refine rgn_nil (by first | trivial | kernel_rfl) ?_ | refine AWP.seq ?_ | refine tX hC hP (by kernel_rfl) ?_ | refine aX hC hM hP (by kernel_rfl) ?_ | refine AWP.skip ?_ | refine AWP.label ?_ | refine AWP.exit ?_ | refine AWP.block ?_ | refine cTa ?_ | refine cFa ?_) | simp only [qS, Nat.reduceEqDiff, ↓reduceIte]))
      (refine AWP.ret ?_; refine retOk2 (by simp only [go_sem, seval, ↓reduceIte, decide_true, decide_false]; rfl) (by simp only [go_sem, seval, ↓reduceIte, decide_true, decide_false]; rfl) (by simp) ?_)
      simp [rkV, hgC, e]
    | true =>
      have hc : htC m ll = 0 := by simp [htC, hb, hp]
      obtain ⟨p, d, h1, h2, h3, h4, h5, h6, h7, h8, h9, _, _⟩ := lw_prime hc
      have hV : rkV m ll = (htX m ll).1 := if_pos hc
      have hX := c_spec_l17Rank p (htX m ll).1 (htX m ll).2 d ll h2 h3 h7 h4 h5 h9
      rw [← h1] at hX
      have hE := ht_pos h2 h9
      by_cases h0 : (htX m ll).1 = 0
      · have e : hgC m ll = 4 := by simp [hgC, hc, hE.1 h0]
        rw [hV, e]
        rw [h0] at hX ⊢
        rw [Int.natCast_zero] at hX ⊢
        (repeat (first | ((with_reducible refine rgn_cons rfl (fun K hK => ?_)); simp only [go_sem, seval, ↓reduceIte, decide_true, decide_false, hb, hp, show ((0 : Int) == 0) = true from rfl]; (first | refine hK _ _ _ (by simp only [go_sem, Nat.reduceEqDiff, ↓reduceIte]; rfl) ?_ | refine ⟨_, hA, hK _ _ _ (by simp only [go_sem, Nat.reduceEqDiff, ↓reduceIte]; rfl) ?_⟩ | refine ⟨_, hB, hK _ _ _ (by simp only [go_sem, Nat.reduceEqDiff, ↓reduceIte]; rfl) ?_⟩ | refine ⟨_, hX, hK _ _ _ (by simp only [go_sem, Nat.reduceEqDiff, ↓reduceIte]; rfl) ?_⟩); clear hK; clear K) | (with_reducible first | refine rgn_nil (by first | trivial | kernel_rfl) ?_ | refine AWP.seq ?_ | refine tX hC hP (by kernel_rfl) ?_ | refine aX hC hM hP (by kernel_rfl) ?_ | refine AWP.skip ?_ | refine AWP.label ?_ | refine AWP.exit ?_ | refine AWP.block ?_ | refine cTa ?_ | refine cFa ?_) | simp only [qS, Nat.reduceEqDiff, ↓reduceIte]))
        (refine AWP.ret ?_; refine retOk2 (by simp only [go_sem, seval, ↓reduceIte, decide_true, decide_false]; rfl) (by simp only [go_sem, seval, ↓reduceIte, decide_true, decide_false]; rfl) (by simp) ?_)
        rfl
      · have e : hgC m ll = 0 := by simp [hgC, hc, show (htX m ll).2 ≠ 0 from fun e => h0 (hE.2 e)]
        rw [hV, e]
        (repeat (first | ((with_reducible refine rgn_cons rfl (fun K hK => ?_)); simp only [go_sem, seval, ↓reduceIte, decide_true, decide_false, hb, hp, show (((htX m ll).1 : Int) == 0) = false by rw [beq_eq_false_iff_ne]; omega]; (first | refine hK _ _ _ (by simp only [go_sem, Nat.reduceEqDiff, ↓reduceIte]; rfl) ?_ | refine ⟨_, hA, hK _ _ _ (by simp only [go_sem, Nat.reduceEqDiff, ↓reduceIte]; rfl) ?_⟩ | refine ⟨_, hB, hK _ _ _ (by simp only [go_sem, Nat.reduceEqDiff, ↓reduceIte]; rfl) ?_⟩ | refine ⟨_, hX, hK _ _ _ (by simp only [go_sem, Nat.reduceEqDiff, ↓reduceIte]; rfl) ?_⟩); clear hK; clear K) | (with_reducible first | refine rgn_nil (by first | trivial | kernel_rfl) ?_ | refine AWP.seq ?_ | refine tX hC hP (by kernel_rfl) ?_ | refine aX hC hM hP (by kernel_rfl) ?_ | refine AWP.skip ?_ | refine AWP.label ?_ | refine AWP.exit ?_ | refine AWP.block ?_ | refine cTa ?_ | refine cFa ?_) | simp only [qS, Nat.reduceEqDiff, ↓reduceIte]))
        (refine AWP.ret ?_; refine retOk2 (by simp only [go_sem, seval, ↓reduceIte, decide_true, decide_false]; rfl) (by simp only [go_sem, seval, ↓reduceIte, decide_true, decide_false]; rfl) (by simp) ?_)
        rfl
set_option maxHeartbeats 1000000 in
theorem c_impl_ranked (m : Int) (ll : List (List Int)) (hs : Sm ll) : AFn Try.prog 75 [.agg [.int .i64 m, .sl false 25 (rowsF ll)]] (.tup [.int .i64 (rkV m ll), .int .i64 (hgC m ll)]) := by
  refine AFn.of' ttOk (by decide) Try.func75 Try.ntmps75 (by rw [Try.results75]) (by rfl) (by rfl) (by simp) (by decide) (by simp only [go_sem, Nat.reduceAdd, ↓reduceIte]; rfl) mixed (fun C hP hM hC => ?_)
  have hA := c_impl_heighted m ll hs
  by_cases hc : htC m ll = 0
  · obtain ⟨p, d, h1, h2, h3, h4, h5, h6, h7, h8, h9, _, _⟩ := lw_prime hc
    have hV : rkV m ll = (htX m ll).1 := if_pos hc
    have f := mzL_facts (m := (p : Int)) (by omega) (pc ll) d (varL d) p
    have hX := c_impl_Plane_byPrime (p : Int) ll d (by omega) (by omega) h7 h4 h5
    rw [ht_ord f.1 h9, ← h1] at hX
    have hE := ht_pos h2 h9
    by_cases h0 : (htX m ll).1 = 0
    · have e : hgC m ll = 4 := by simp [hgC, hc, hE.1 h0]
      rw [hV, e]
      rw [h0] at hX ⊢
      rw [Int.natCast_zero] at hX ⊢
      (repeat (first | ((with_reducible refine rgn_cons rfl (fun K hK => ?_)); simp only [go_sem, seval, ↓reduceIte, decide_true, decide_false, hc, show ((0 : Int) != 0) = false from rfl, show ((0 : Int) == 0) = true from rfl]; (first | refine hK _ _ _ (by simp only [go_sem, Nat.reduceEqDiff, ↓reduceIte]; rfl) ?_ | refine ⟨_, hA, hK _ _ _ (by simp only [go_sem, Nat.reduceEqDiff, ↓reduceIte]; rfl) ?_⟩ | refine ⟨_, hX, hK _ _ _ (by simp only [go_sem, Nat.reduceEqDiff, ↓reduceIte]; rfl) ?_⟩); clear hK; clear K) | (with_reducible first | refine rgn_nil (by first | trivial | kernel_rfl) ?_ | refine AWP.seq ?_ | refine tX hC hP (by kernel_rfl) ?_ | refine aX hC hM hP (by kernel_rfl) ?_ | refine AWP.skip ?_ | refine AWP.label ?_ | refine AWP.exit ?_ | refine AWP.block ?_ | refine cTa ?_ | refine cFa ?_) | simp only [qS, Nat.reduceEqDiff, ↓reduceIte]))
      (refine AWP.ret ?_; refine retOk2 (by simp only [go_sem, seval, ↓reduceIte, decide_true, decide_false]; rfl) (by simp only [go_sem, seval, ↓reduceIte, decide_true, decide_false]; rfl) (by simp) ?_)
      rfl
    · have e : hgC m ll = 0 := by simp [hgC, hc, show (htX m ll).2 ≠ 0 from fun e => h0 (hE.2 e)]
      rw [hV, e]
      (repeat (first | ((with_reducible refine rgn_cons rfl (fun K hK => ?_)); simp only [go_sem, seval, ↓reduceIte, decide_true, decide_false, hc, show ((0 : Int) != 0) = false from rfl, show (((htX m ll).1 : Int) == 0) = false by rw [beq_eq_false_iff_ne]; omega]; (first | refine hK _ _ _ (by simp only [go_sem, Nat.reduceEqDiff, ↓reduceIte]; rfl) ?_ | refine ⟨_, hA, hK _ _ _ (by simp only [go_sem, Nat.reduceEqDiff, ↓reduceIte]; rfl) ?_⟩ | refine ⟨_, hX, hK _ _ _ (by simp only [go_sem, Nat.reduceEqDiff, ↓reduceIte]; rfl) ?_⟩); clear hK; clear K) | (with_reducible first | refine rgn_nil (by first | trivial | kernel_rfl) ?_ | refine AWP.seq ?_ | refine tX hC hP (by kernel_rfl) ?_ | refine aX hC hM hP (by kernel_rfl) ?_ | refine AWP.skip ?_ | refine AWP.label ?_ | refine AWP.exit ?_ | refine AWP.block ?_ | refine cTa ?_ | refine cFa ?_) | simp only [qS, Nat.reduceEqDiff, ↓reduceIte]))
      (refine AWP.ret ?_; refine retOk2 (by simp only [go_sem, seval, ↓reduceIte, decide_true, decide_false]; rfl) (by simp only [go_sem, seval, ↓reduceIte, decide_true, decide_false]; rfl) (by simp) ?_)
      rfl
  · have e : hgC m ll = htC m ll := if_neg hc
    have hV : rkV m ll = 0 := if_neg hc
    (repeat (first | ((with_reducible refine rgn_cons rfl (fun K hK => ?_)); simp only [go_sem, seval, ↓reduceIte, decide_true, decide_false, show (htC m ll != 0) = true by simpa using hc]; (first | refine hK _ _ _ (by simp only [go_sem, Nat.reduceEqDiff, ↓reduceIte]; rfl) ?_ | refine ⟨_, hA, hK _ _ _ (by simp only [go_sem, Nat.reduceEqDiff, ↓reduceIte]; rfl) ?_⟩); clear hK; clear K) | (with_reducible first | refine rgn_nil (by first | trivial | kernel_rfl) ?_ | refine AWP.seq ?_ | refine tX hC hP (by kernel_rfl) ?_ | refine aX hC hM hP (by kernel_rfl) ?_ | refine AWP.skip ?_ | refine AWP.label ?_ | refine AWP.exit ?_ | refine AWP.block ?_ | refine cTa ?_ | refine cFa ?_) | simp only [qS, Nat.reduceEqDiff, ↓reduceIte]))
    (refine AWP.ret ?_; refine retOk2 (by simp only [go_sem, seval, ↓reduceIte, decide_true, decide_false]; rfl) (by simp only [go_sem, seval, ↓reduceIte, decide_true, decide_false]; rfl) (by simp) ?_)
    rw [hV, e]
-- The series and the unit of a law.
theorem serH_len (P : List Int) (N d : Nat) : (serH P N d).length ≤ d := by
  unfold serH
  split
  · exact Nat.zero_le _
  · rw [tab_length]; exact Nat.div_le_self _ _
theorem serH_pos {P : List Int} {N d : Nat} (h : 0 < N) (h2 : N ≤ d) : 0 < (serH P N d).length ∧ (serH P N d).getD 0 0 = at' P N := by
  have hd : 1 ≤ d / N := (Nat.le_div_iff_mul_le h).2 (by omega)
  unfold serH
  rw [if_neg (by omega), tab_length, tab_getD (by omega)]
  exact ⟨hd, by simp⟩

end Go.Proofs.Ytfnfdjomkohfjaa

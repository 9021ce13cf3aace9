/-
  Orders of points: numbers.
-/
import Derived.Test.YtamdpfnmclkljaaRc
namespace Go.Proofs.Ytamdpfnmclkljaa
open Go.RowKit
set_option linter.unusedSimpArgs false
set_option linter.unusedVariables false
set_option linter.unusedSectionVars false
set_option maxRecDepth 20000
-- Orders of points: numbers.
/-- A number without a divisor's powers. -/
def strip (q m : Nat) : Nat := if h : 2 ≤ q ∧ 0 < m ∧ m % q = 0 then strip q (m / q) else m
  termination_by m
  decreasing_by exact Nat.div_lt_self h.2.1 h.1
def vl (q m : Nat) : Nat := if h : 2 ≤ q ∧ 0 < m ∧ m % q = 0 then vl q (m / q) + 1 else 0
  termination_by m
  decreasing_by exact Nat.div_lt_self h.2.1 h.1
theorem strip_yes {q m : Nat} (h1 : 2 ≤ q) (h2 : 0 < m) (h3 : m % q = 0) : strip q m = strip q (m / q) := by rw [strip, dif_pos ⟨h1, h2, h3⟩]
theorem strip_no {q m : Nat} (h3 : m % q ≠ 0) : strip q m = m := by rw [strip, dif_neg (fun h => h3 h.2.2)]
theorem vl_yes {q m : Nat} (h1 : 2 ≤ q) (h2 : 0 < m) (h3 : m % q = 0) : vl q m = vl q (m / q) + 1 := by rw [vl, dif_pos ⟨h1, h2, h3⟩]
theorem vl_no {q m : Nat} (h3 : m % q ≠ 0) : vl q m = 0 := by rw [vl, dif_neg (fun h => h3 h.2.2)]
theorem strip_facts {q : Nat} (hq : 2 ≤ q) : ∀ m, 0 < m → 0 < strip q m ∧ strip q m ≤ m ∧ strip q m % q ≠ 0 ∧ ∀ p, strip q m % p = 0 → m % p = 0 := by
  intro m
  induction m using Nat.strongRecOn with
  | _ m ih =>
    intro hm
    by_cases h : m % q = 0
    · have hd : 0 < m / q := Nat.div_pos (Nat.le_of_dvd hm (Nat.dvd_of_mod_eq_zero h)) (by omega)
      have hlt := Nat.div_lt_self hm (show 1 < q by omega)
      have := ih (m / q) hlt hd
      rw [strip_yes hq hm h]
      refine ⟨this.1, by omega, this.2.2.1, fun p hp => ?_⟩
      have h1 := Nat.dvd_of_mod_eq_zero (this.2.2.2 p hp)
      have h2 : m / q ∣ m := Nat.div_dvd_of_dvd (Nat.dvd_of_mod_eq_zero h)
      exact Nat.mod_eq_zero_of_dvd (Nat.dvd_trans h1 h2)
    · rw [strip_no h]
      exact ⟨hm, Nat.le_refl _, h, fun p hp => hp⟩
/-- No divisor below q. -/
def ND (q m : Nat) : Prop := ∀ p, 2 ≤ p → p < q → m % p ≠ 0
theorem ND.le {q m : Nat} (h : ND q m) (hm : 1 < m) : q ≤ m := Nat.le_of_not_lt fun hlt => h m hm hlt (Nat.mod_self m)
theorem ND.next {q m : Nat} (h : ND q m) (hq : m % q ≠ 0) : ND (q + 1) m := fun p h1 h2 => by
  by_cases e : p = q
  · rw [e]; exact hq
  · exact h p h1 (by omega)
theorem ND.strip {q m : Nat} (h : ND q m) (hq : 2 ≤ q) (hm : 0 < m) : ND (q + 1) (strip q m) := by
  have f := strip_facts hq m hm
  intro p h1 h2 h3
  by_cases e : p = q
  · rw [e] at h3; exact f.2.2.1 h3
  · exact h p h1 (by omega) (f.2.2.2 p h3)
/-- The prime divisors from q on. -/
def pfL : Nat → Nat → Nat → List Int
  | 0, _, _ => []
  | F + 1, q, m => if m ≤ 1 then [] else if m % q = 0 then (q : Int) :: pfL F (q + 1) (strip q m) else pfL F (q + 1) m
theorem pfL_end (F q : Nat) {m : Nat} (h : m ≤ 1) : pfL F q m = [] := by
  cases F with
  | zero => rfl
  | succ F => rw [pfL, if_pos h]
theorem pfL_fuel : ∀ (F G q m : Nat), ND q m → 2 ≤ q → 0 < m → m < q + F → m < q + G → pfL F q m = pfL G q m
  | 0, G, q, m, hN, h2, h0, hF, hG => by
    have : m ≤ 1 := Nat.le_of_not_lt fun h => by have := hN.le h; omega
    rw [pfL_end _ _ this, pfL_end _ _ this]
  | F + 1, 0, q, m, hN, h2, h0, hF, hG => by
    have : m ≤ 1 := Nat.le_of_not_lt fun h => by have := hN.le h; omega
    rw [pfL_end _ _ this, pfL_end _ _ this]
  | F + 1, G + 1, q, m, hN, h2, h0, hF, hG => by
    by_cases h1 : m ≤ 1
    · rw [pfL_end _ _ h1, pfL_end _ _ h1]
    · rw [pfL, pfL, if_neg h1, if_neg h1]
      by_cases h : m % q = 0
      · have f := strip_facts h2 m h0
        rw [if_pos h, if_pos h, pfL_fuel F G (q + 1) (strip q m) (hN.strip h2 h0) (by omega) f.1 (by omega) (by omega)]
      · rw [if_neg h, if_neg h, pfL_fuel F G (q + 1) m (hN.next h) (by omega) h0 (by omega) (by omega)]
theorem pfL_skip {F d n : Nat} (h2 : 2 ≤ d) (hn : 1 < n) : ∀ k, (∀ p, d ≤ p → p < d + k → n % p ≠ 0) → pfL (F + k) d n = pfL F (d + k) n
  | 0, _ => rfl
  | k + 1, h => by
    rw [← Nat.add_assoc, show pfL (F + k + 1) d n = pfL (F + k) (d + 1) n by rw [pfL, if_neg (by omega), if_neg (h d (Nat.le_refl _) (by omega))], pfL_skip (by omega) hn k (fun p h1 h3 => h p (by omega) (by omega)), show d + 1 + k = d + (k + 1) by omega]
/-- The program's list of factors. -/
def fcE (d n : Nat) : Nat := if n < d * d then n else d
def fcL : Nat → Nat → Nat → List (List Int)
  | 0, _, _ => []
  | F + 1, d, n => if n ≤ 1 then [] else if n % fcE d n = 0 then [(fcE d n : Int), (vl (fcE d n) n : Int)] :: fcL F (fcE d n + 1) (strip (fcE d n) n) else fcL F (fcE d n + 1) n
theorem fcL_end (F q : Nat) {m : Nat} (h : m ≤ 1) : fcL F q m = [] := by
  cases F with
  | zero => rfl
  | succ F => rw [fcL, if_pos h]
theorem fcE_facts {d n : Nat} (hN : ND d n) (h2 : 2 ≤ d) (hn : 1 < n) : d ≤ fcE d n ∧ fcE d n ≤ n ∧ ∀ p, d ≤ p → p < fcE d n → n % p ≠ 0 := by
  have hle := hN.le hn
  unfold fcE
  split
  · rename_i h
    refine ⟨hle, Nat.le_refl _, fun p h1 h3 h4 => ?_⟩
    obtain ⟨c, hc⟩ := Nat.dvd_of_mod_eq_zero h4
    have hc1 : c < d := Nat.lt_of_not_le fun h5 => by
      have := Nat.mul_le_mul h1 h5
      omega
    have hc2 : 2 ≤ c := by
      rcases Nat.lt_or_ge c 2 with h5 | h5
      · have : c = 0 ∨ c = 1 := by omega
        rcases this with rfl | rfl <;> omega
      · exact h5
    exact hN c hc2 hc1 (Nat.mod_eq_zero_of_dvd ⟨p, by rw [hc, Nat.mul_comm]⟩)
  · exact ⟨Nat.le_refl _, hle, fun p h1 h3 => by omega⟩
theorem ND.upto {d e n : Nat} (h : ND d n) (h2 : ∀ p, d ≤ p → p < e → n % p ≠ 0) : ND e n := fun p h1 h3 => by
  by_cases h4 : p < d
  · exact h p h1 h4
  · exact h2 p (by omega) h3
theorem fc_heads : ∀ (F d n : Nat), ND d n → 2 ≤ d → 0 < n → n < d + F → (fcL F d n).map (fun r => r.getD 0 0) = pfL F d n
  | 0, d, n, hN, h2, h0, hF => rfl
  | F + 1, d, n, hN, h2, h0, hF => by
    by_cases h1 : n ≤ 1
    · rw [fcL_end _ _ h1, pfL_end _ _ h1]; rfl
    · have e := fcE_facts hN h2 (by omega)
      have hN2 := hN.upto e.2.2
      generalize hE : fcE d n = E at *
      obtain ⟨k, rfl⟩ : ∃ k, E = d + k := ⟨E - d, by omega⟩
      have hk : k ≤ F := by omega
      rw [fcL, if_neg h1, hE, show F + 1 = (F - k) + 1 + k by omega, pfL_skip h2 (by omega) k e.2.2, pfL, if_neg h1]
      by_cases h : n % (d + k) = 0
      · have f := strip_facts (q := d + k) (by omega) n h0
        have hN3 := hN2.strip (by omega) h0
        rw [if_pos h, if_pos h, List.map_cons, fc_heads F (d + k + 1) _ hN3 (by omega) f.1 (by omega)]
        rw [pfL_fuel F (F - k) _ _ hN3 (by omega) f.1 (by omega) (by omega)]
        rfl
      · have hN3 := hN2.next h
        rw [if_neg h, if_neg h, fc_heads F (d + k + 1) _ hN3 (by omega) h0 (by omega)]
        exact pfL_fuel _ _ _ _ hN3 (by omega) h0 (by omega) (by omega)
theorem fc_rows : ∀ (F d n : Nat), ∀ r ∈ fcL F d n, r.length = 2
  | 0, _, _, r, h => by simp [fcL] at h
  | F + 1, d, n, r, h => by
    unfold fcL at h
    split at h
    · simp at h
    · split at h
      · rcases List.mem_cons.1 h with e | e
        · rw [e]; rfl
        · exact fc_rows F _ _ r e
      · exact fc_rows F _ _ r h
theorem pf_num : ∀ (F q n : Nat), 2 ≤ q → ∀ x ∈ pfL F q n, 2 ≤ x
  | 0, _, _, _, x, h => by simp [pfL] at h
  | F + 1, q, n, hq, x, h => by
    unfold pfL at h
    split at h
    · simp at h
    · split at h
      · rcases List.mem_cons.1 h with e | e
        · rw [e]; omega
        · exact pf_num F _ _ (by omega) x e
      · exact pf_num F _ _ (by omega) x h
theorem pf_len : ∀ (F q n : Nat), (pfL F q n).length ≤ F
  | 0, _, _ => Nat.le_refl _
  | F + 1, q, n => by
    unfold pfL
    split
    · simp
    · split
      · have := pf_len F (q + 1) (strip q n); simp; omega
      · have := pf_len F (q + 1) n; omega
theorem tmodN2 (x y : Nat) : (x : Int).tmod (y : Int) = ((x % y : Nat) : Int) := by first | rfl | simp
theorem tdivN2 (x y : Nat) : (x : Int).tdiv (y : Int) = ((x / y : Nat) : Int) := by first | rfl | simp
theorem pfL_succ {F q m : Nat} (h : 1 < m) : pfL (F + 1) q m = if m % q = 0 then (q : Int) :: pfL F (q + 1) (strip q m) else pfL F (q + 1) m := by rw [pfL, if_neg (by omega)]
theorem fcL_succ {F q m : Nat} (h : 1 < m) : fcL (F + 1) q m = if m % fcE q m = 0 then [(fcE q m : Int), (vl (fcE q m) m : Int)] :: fcL F (fcE q m + 1) (strip (fcE q m) m) else fcL F (fcE q m + 1) m := by rw [fcL, if_neg (by omega)]
set_option maxHeartbeats 2000000 in
theorem c_spec_l16Primes (m : Nat) (hm : 2 ≤ m) (hm2 : m ≤ 10000) : AFn Try.prog 107 [.int .i64 m] (.sl true 2 (intL (pfL m 2 m))) := by
  refine AFn.of' ttOk (by decide) Try.func107 Try.ntmps107 (by rw [Try.results107]) (by rfl) (by rfl) (by simp) (by decide) (by simp only [go_sem, Nat.reduceAdd, ↓reduceIte]; rfl) mixed (fun C hP hM hC => ?_)
  (repeat (first | ((with_reducible refine rgn_cons rfl (fun K hK => ?_)); simp only [go_sem, seval, ↓reduceIte, decide_true, decide_false]; (refine hK _ _ _ (by simp only [go_sem, Nat.reduceEqDiff, ↓reduceIte]; rfl) ?_); clear hK; clear K) | (with_reducible first | refine rgn_nil (by first | trivial | kernel_rfl) ?_ | refine AWP.seq ?_ | refine tX hC hP (by kernel_rfl) ?_ | refine aX hC hM hP (by kernel_rfl) ?_ | refine AWP.skip ?_ | refine AWP.label ?_ | refine AWP.exit ?_ | refine AWP.block ?_ | refine cT (by simp only [go_sem, Nat.reduceEqDiff, ↓reduceIte]; with_reducible rfl) ?_ | refine cF (by simp only [go_sem, Nat.reduceEqDiff, ↓reduceIte]; with_reducible rfl) ?_) | simp only [qS, Nat.reduceEqDiff, ↓reduceIte]))
  refine AWP.loop (fun w : Nat × Nat × List Int × Nat × Nat => [(0, ⟨0, .val (.int .i64 w.1)⟩), (4, ⟨0, .val (.int .i64 w.2.1)⟩), (3, ⟨w.2.2.2.1, .own (.sl true 2 (intL w.2.2.1))⟩)]) (fun w => 0 < w.1 ∧ w.1 ≤ m ∧ 2 ≤ w.2.1 ∧ w.2.1 ≤ 10002 ∧ ND w.2.1 w.1 ∧ w.1 < w.2.1 + w.2.2.2.2 ∧ w.2.2.1.length + w.2.2.2.2 ≤ m ∧ w.2.2.1 ++ pfL w.2.2.2.2 w.2.1 w.1 = pfL m 2 m) (fun w => w.2.2.2.2) (m, 2, [], 1, m) ⟨by simp only; omega, Nat.le_refl _, Nat.le_refl _, by simp only; omega, fun p h1 h2 => by simp only at h2; omega, by simp only; omega, by simp, rfl⟩ (fun i => rfl) ?_ (fun w hw => ?_)
  · simp [Sub, lk, intL]
  · obtain ⟨n, q, out, v, F⟩ := w
    simp only at hw ⊢
    obtain ⟨h0, h1, h2, h3, hN, hF, hl, hE⟩ := hw
    by_cases hn : 1 < n
    · have hqn := hN.le hn
      obtain ⟨F, rfl⟩ : ∃ G, F = G + 1 := ⟨F - 1, by omega⟩
      rw [pfL_succ hn] at hE
      have f := strip_facts h2 n h0
      by_cases hd : n % q = 0
      · rw [if_pos hd] at hE
        (repeat (first | ((with_reducible refine rgn_cons rfl (fun K hK => ?_)); simp only [go_sem, seval, ↓reduceIte, decide_true, decide_false, show (1 : Int) < (n : Int) by omega, decide_true, show (q : Int) ≠ 0 by omega, tmodN2, hd, Int.natCast_zero, show ((0 : Int) == 0) = true from rfl, intL_snoc, show out.length + 1 ≤ 1099511627776 by omega, show (out.length + 1) * 8 ≤ 140737488355328 by omega]; (refine hK _ _ _ (by simp only [go_sem, Nat.reduceEqDiff, ↓reduceIte]; rfl) ?_); clear hK; clear K) | (with_reducible first | refine rgn_nil (by first | trivial | kernel_rfl) ?_ | refine AWP.seq ?_ | refine tX hC hP (by kernel_rfl) ?_ | refine aX hC hM hP (by kernel_rfl) ?_ | refine AWP.skip ?_ | refine AWP.label ?_ | refine AWP.exit ?_ | refine AWP.block ?_ | refine cT (by simp only [go_sem, Nat.reduceEqDiff, ↓reduceIte]; with_reducible rfl) ?_ | refine cF (by simp only [go_sem, Nat.reduceEqDiff, ↓reduceIte]; with_reducible rfl) ?_) | simp only [qS, Nat.reduceEqDiff, ↓reduceIte]))
        refine AWP.loop (fun x : Nat => [(0, ⟨0, .val (.int .i64 x)⟩), (4, ⟨0, .val (.int .i64 q)⟩), (3, ⟨v + 1, .own (.sl true 2 (intL (out ++ [(q : Int)])))⟩)]) (fun x => 0 < x ∧ x ≤ n ∧ strip q x = strip q n) (fun x => x) n ⟨h0, Nat.le_refl _, rfl⟩ (fun i => rfl) ?_ (fun x hx => ?_)
        · simp [Sub, lk]
        · by_cases hx0 : x % q = 0
          · have hpos : 0 < x / q := Nat.div_pos (Nat.le_of_dvd hx.1 (Nat.dvd_of_mod_eq_zero hx0)) (by omega)
            have hlt := Nat.div_lt_self hx.1 (show 1 < q by omega)
            (repeat (first | ((with_reducible refine rgn_cons rfl (fun K hK => ?_)); simp only [go_sem, seval, ↓reduceIte, decide_true, decide_false, show (q : Int) ≠ 0 by omega, tmodN2, tdivN2, hx0, Int.natCast_zero, show ((0 : Int) == 0) = true from rfl, wid ((x / q : Nat) : Int) (by omega) (by omega)]; (refine hK _ _ _ (by simp only [go_sem, Nat.reduceEqDiff, ↓reduceIte]; rfl) ?_); clear hK; clear K) | (with_reducible first | refine rgn_nil (by first | trivial | kernel_rfl) ?_ | refine AWP.seq ?_ | refine tX hC hP (by kernel_rfl) ?_ | refine aX hC hM hP (by kernel_rfl) ?_ | refine AWP.skip ?_ | refine AWP.label ?_ | refine AWP.exit ?_ | refine AWP.block ?_ | refine cT (by simp only [go_sem, Nat.reduceEqDiff, ↓reduceIte]; with_reducible rfl) ?_ | refine cF (by simp only [go_sem, Nat.reduceEqDiff, ↓reduceIte]; with_reducible rfl) ?_) | simp only [qS, Nat.reduceEqDiff, ↓reduceIte]))
            exact ⟨x / q, ⟨hpos, by omega, by rw [← strip_yes h2 hx.1 hx0]; exact hx.2.2⟩, hlt, by simp [Sub, lk]⟩
          · have hx2 : x = strip q n := by rw [← hx.2.2, strip_no hx0]
            (repeat (first | ((with_reducible refine rgn_cons rfl (fun K hK => ?_)); simp only [go_sem, seval, ↓reduceIte, decide_true, decide_false, show (q : Int) ≠ 0 by omega, tmodN2, show (((x % q : Nat) : Int) == 0) = false by rw [beq_eq_false_iff_ne]; omega, wid ((q : Int) + 1) (by omega) (by omega)]; (refine hK _ _ _ (by simp only [go_sem, Nat.reduceEqDiff, ↓reduceIte]; rfl) ?_); clear hK; clear K) | (with_reducible first | refine rgn_nil (by first | trivial | kernel_rfl) ?_ | refine AWP.seq ?_ | refine tX hC hP (by kernel_rfl) ?_ | refine aX hC hM hP (by kernel_rfl) ?_ | refine AWP.skip ?_ | refine AWP.label ?_ | refine AWP.exit ?_ | refine AWP.block ?_ | refine cT (by simp only [go_sem, Nat.reduceEqDiff, ↓reduceIte]; with_reducible rfl) ?_ | refine cF (by simp only [go_sem, Nat.reduceEqDiff, ↓reduceIte]; with_reducible rfl) ?_) | simp only [qS, Nat.reduceEqDiff, ↓reduceIte]))
            exact ⟨(x, q + 1, out ++ [(q : Int)], v + 1, F), ⟨hx.1, by simp only; omega, by simp only; omega, by simp only; omega, by simp only [hx2]; exact hN.strip h2 h0, by simp only [hx2]; omega, by simp; omega, by simp only [hx2]; rw [List.append_assoc]; exact hE⟩, by simp only; omega, by simp [Sub, lk]⟩
      · rw [if_neg hd] at hE
        (repeat (first | ((with_reducible refine rgn_cons rfl (fun K hK => ?_)); simp only [go_sem, seval, ↓reduceIte, decide_true, decide_false, show (1 : Int) < (n : Int) by omega, decide_true, show (q : Int) ≠ 0 by omega, tmodN2, show (((n % q : Nat) : Int) == 0) = false by rw [beq_eq_false_iff_ne]; omega]; (refine hK _ _ _ (by simp only [go_sem, Nat.reduceEqDiff, ↓reduceIte]; rfl) ?_); clear hK; clear K) | (with_reducible first | refine rgn_nil (by first | trivial | kernel_rfl) ?_ | refine AWP.seq ?_ | refine tX hC hP (by kernel_rfl) ?_ | refine aX hC hM hP (by kernel_rfl) ?_ | refine AWP.skip ?_ | refine AWP.label ?_ | refine AWP.exit ?_ | refine AWP.block ?_ | refine cT (by simp only [go_sem, Nat.reduceEqDiff, ↓reduceIte]; with_reducible rfl) ?_ | refine cF (by simp only [go_sem, Nat.reduceEqDiff, ↓reduceIte]; with_reducible rfl) ?_) | simp only [qS, Nat.reduceEqDiff, ↓reduceIte]))
        refine AWP.loop (fun x : Nat => [(0, ⟨0, .val (.int .i64 n)⟩), (4, ⟨0, .val (.int .i64 q)⟩), (3, ⟨v, .own (.sl true 2 (intL out))⟩)]) (fun x => True) (fun x => 0) 0 trivial (fun i => rfl) ?_ (fun x hx => ?_)
        · simp [Sub, lk]
        · (repeat (first | ((with_reducible refine rgn_cons rfl (fun K hK => ?_)); simp only [go_sem, seval, ↓reduceIte, decide_true, decide_false, show (q : Int) ≠ 0 by omega, tmodN2, show (((n % q : Nat) : Int) == 0) = false by rw [beq_eq_false_iff_ne]; omega, wid ((q : Int) + 1) (by omega) (by omega)]; (refine hK _ _ _ (by simp only [go_sem, Nat.reduceEqDiff, ↓reduceIte]; rfl) ?_); clear hK; clear K) | (with_reducible first | refine rgn_nil (by first | trivial | kernel_rfl) ?_ | refine AWP.seq ?_ | refine tX hC hP (by kernel_rfl) ?_ | refine aX hC hM hP (by kernel_rfl) ?_ | refine AWP.skip ?_ | refine AWP.label ?_ | refine AWP.exit ?_ | refine AWP.block ?_ | refine cT (by simp only [go_sem, Nat.reduceEqDiff, ↓reduceIte]; with_reducible rfl) ?_ | refine cF (by simp only [go_sem, Nat.reduceEqDiff, ↓reduceIte]; with_reducible rfl) ?_) | simp only [qS, Nat.reduceEqDiff, ↓reduceIte]))
          exact ⟨(n, q + 1, out, v, F), ⟨h0, h1, by simp only; omega, by simp only; omega, hN.next hd, by simp only; omega, by simp only; omega, hE⟩, by simp only; omega, by simp [Sub, lk]⟩
    · rw [pfL_end _ _ (by omega), List.append_nil] at hE
      (repeat (first | ((with_reducible refine rgn_cons rfl (fun K hK => ?_)); simp only [go_sem, seval, ↓reduceIte, decide_true, decide_false, show ¬ (1 : Int) < (n : Int) by omega, decide_false]; (refine hK _ _ _ (by simp only [go_sem, Nat.reduceEqDiff, ↓reduceIte]; rfl) ?_); clear hK; clear K) | (with_reducible first | refine rgn_nil (by first | trivial | kernel_rfl) ?_ | refine AWP.seq ?_ | refine tX hC hP (by kernel_rfl) ?_ | refine aX hC hM hP (by kernel_rfl) ?_ | refine AWP.skip ?_ | refine AWP.label ?_ | refine AWP.exit ?_ | refine AWP.block ?_ | refine cT (by simp only [go_sem, Nat.reduceEqDiff, ↓reduceIte]; with_reducible rfl) ?_ | refine cF (by simp only [go_sem, Nat.reduceEqDiff, ↓reduceIte]; with_reducible rfl) ?_) | simp only [qS, Nat.reduceEqDiff, ↓reduceIte]))
      (refine AWP.ret ?_; first | refine retOk1 (by simp only [go_sem, seval, ↓reduceIte, decide_true, decide_false]; rfl) ?_ | refine retOk2 (by simp only [go_sem, seval, ↓reduceIte, decide_true, decide_false]; rfl) (by simp only [go_sem, seval, ↓reduceIte, decide_true, decide_false]; rfl) (by simp) ?_ | refine retOk3 (by simp only [go_sem, seval, ↓reduceIte, decide_true, decide_false]; rfl) (by simp only [go_sem, seval, ↓reduceIte, decide_true, decide_false]; rfl) (by simp only [go_sem, seval, ↓reduceIte, decide_true, decide_false]; rfl) (by simp) ?_)
      rw [hE]
-- Orders of points: sizes, factors, tests.
def szM (m k most : Nat) : Nat := if m ^ k ≤ most then m ^ k else most + 1
theorem pow_mono1 {m j k : Nat} (hm : 2 ≤ m) (h : j ≤ k) : m ^ j ≤ m ^ k := Nat.pow_le_pow_right (by omega) h
theorem c_spec_l16Size (m k most : Nat) (hm : 2 ≤ m) (hm2 : m ≤ 10000) (hk : k ≤ 1000) (h1 : 1 ≤ most) (h2 : most ≤ 1000000000000) : AFn Try.prog 106 [.int .i64 m, .int .i64 k, .int .i64 most] (.int .i64 (szM m k most)) := by
  refine AFn.of' ttOk (by decide) Try.func106 Try.ntmps106 (by rw [Try.results106]) (by rfl) (by rfl) (by simp) (by decide) (by simp only [go_sem, Nat.reduceAdd, ↓reduceIte]; rfl) mixed (fun C hP hM hC => ?_)
  (repeat (first | ((with_reducible refine rgn_cons rfl (fun K hK => ?_)); simp only [go_sem, seval, ↓reduceIte, decide_true, decide_false]; (refine hK _ _ _ (by simp only [go_sem, Nat.reduceEqDiff, ↓reduceIte]; rfl) ?_); clear hK; clear K) | (with_reducible first | refine rgn_nil (by first | trivial | kernel_rfl) ?_ | refine AWP.seq ?_ | refine tX hC hP (by kernel_rfl) ?_ | refine aX hC hM hP (by kernel_rfl) ?_ | refine AWP.skip ?_ | refine AWP.label ?_ | refine AWP.exit ?_ | refine AWP.block ?_ | refine cT (by simp only [go_sem, Nat.reduceEqDiff, ↓reduceIte]; with_reducible rfl) ?_ | refine cF (by simp only [go_sem, Nat.reduceEqDiff, ↓reduceIte]; with_reducible rfl) ?_) | simp only [qS, Nat.reduceEqDiff, ↓reduceIte]))
  refine AWP.loop (fun j : Nat => [(0, ⟨0, .val (.int .i64 m)⟩), (1, ⟨0, .val (.int .i64 ((k : Int) - j))⟩), (2, ⟨0, .val (.int .i64 most)⟩), (7, ⟨0, .val (.int .i64 (m ^ j : Nat))⟩)]) (fun j => j ≤ k ∧ m ^ j ≤ most) (fun j => k - j) 0 ⟨Nat.zero_le _, by rw [Nat.pow_zero]; exact h1⟩ (fun i => rfl) ?_ (fun j hj => ?_)
  · simp [Sub, lk]
  · by_cases hlt : j < k
    · have hs : m ^ j * m = m ^ (j + 1) := (Nat.pow_succ ..).symm
      have hb : m ^ (j + 1) ≤ 1000000000000 * 10000 := by rw [← hs]; exact Nat.mul_le_mul (by omega) hm2
      by_cases hq : m ^ (j + 1) ≤ most
      · (repeat (first | ((with_reducible refine rgn_cons rfl (fun K hK => ?_)); simp only [go_sem, seval, ↓reduceIte, decide_true, decide_false, show (0 : Int) < (k : Int) - (j : Int) by omega, decide_true, ← Int.natCast_mul, hs, wid ((m ^ (j + 1) : Nat) : Int) (by omega) (by omega), show ¬ ((m ^ (j + 1) : Nat) : Int) > (most : Int) by omega, decide_false, wid ((k : Int) - (j : Int) - 1) (by omega) (by omega)]; (refine hK _ _ _ (by simp only [go_sem, Nat.reduceEqDiff, ↓reduceIte]; rfl) ?_); clear hK; clear K) | (with_reducible first | refine rgn_nil (by first | trivial | kernel_rfl) ?_ | refine AWP.seq ?_ | refine tX hC hP (by kernel_rfl) ?_ | refine aX hC hM hP (by kernel_rfl) ?_ | refine AWP.skip ?_ | refine AWP.label ?_ | refine AWP.exit ?_ | refine AWP.block ?_ | refine cT (by simp only [go_sem, Nat.reduceEqDiff, ↓reduceIte]; with_reducible rfl) ?_ | refine cF (by simp only [go_sem, Nat.reduceEqDiff, ↓reduceIte]; with_reducible rfl) ?_) | simp only [qS, Nat.reduceEqDiff, ↓reduceIte]))
        exact ⟨j + 1, ⟨hlt, hq⟩, by omega, by simp [Sub, lk]; omega⟩
      · have hE : szM m k most = most + 1 := if_neg (fun h => hq (Nat.le_trans (pow_mono1 hm hlt) h))
        (repeat (first | ((with_reducible refine rgn_cons rfl (fun K hK => ?_)); simp only [go_sem, seval, ↓reduceIte, decide_true, decide_false, show (0 : Int) < (k : Int) - (j : Int) by omega, decide_true, ← Int.natCast_mul, hs, wid ((m ^ (j + 1) : Nat) : Int) (by omega) (by omega), show ((m ^ (j + 1) : Nat) : Int) > (most : Int) by omega, wid ((most : Int) + 1) (by omega) (by omega)]; (refine hK _ _ _ (by simp only [go_sem, Nat.reduceEqDiff, ↓reduceIte]; rfl) ?_); clear hK; clear K) | (with_reducible first | refine rgn_nil (by first | trivial | kernel_rfl) ?_ | refine AWP.seq ?_ | refine tX hC hP (by kernel_rfl) ?_ | refine aX hC hM hP (by kernel_rfl) ?_ | refine AWP.skip ?_ | refine AWP.label ?_ | refine AWP.exit ?_ | refine AWP.block ?_ | refine cT (by simp only [go_sem, Nat.reduceEqDiff, ↓reduceIte]; with_reducible rfl) ?_ | refine cF (by simp only [go_sem, Nat.reduceEqDiff, ↓reduceIte]; with_reducible rfl) ?_) | simp only [qS, Nat.reduceEqDiff, ↓reduceIte]))
        (refine AWP.ret ?_; first | refine retOk1 (by simp only [go_sem, seval, ↓reduceIte, decide_true, decide_false]; rfl) ?_ | refine retOk2 (by simp only [go_sem, seval, ↓reduceIte, decide_true, decide_false]; rfl) (by simp only [go_sem, seval, ↓reduceIte, decide_true, decide_false]; rfl) (by simp) ?_ | refine retOk3 (by simp only [go_sem, seval, ↓reduceIte, decide_true, decide_false]; rfl) (by simp only [go_sem, seval, ↓reduceIte, decide_true, decide_false]; rfl) (by simp only [go_sem, seval, ↓reduceIte, decide_true, decide_false]; rfl) (by simp) ?_)
        rw [hE]; rfl
    · have e : j = k := by omega
      subst e
      have hE : szM m j most = m ^ j := if_pos hj.2
      (repeat (first | ((with_reducible refine rgn_cons rfl (fun K hK => ?_)); simp only [go_sem, seval, ↓reduceIte, decide_true, decide_false, show ¬ (0 : Int) < (j : Int) - (j : Int) by omega, decide_false]; (refine hK _ _ _ (by simp only [go_sem, Nat.reduceEqDiff, ↓reduceIte]; rfl) ?_); clear hK; clear K) | (with_reducible first | refine rgn_nil (by first | trivial | kernel_rfl) ?_ | refine AWP.seq ?_ | refine tX hC hP (by kernel_rfl) ?_ | refine aX hC hM hP (by kernel_rfl) ?_ | refine AWP.skip ?_ | refine AWP.label ?_ | refine AWP.exit ?_ | refine AWP.block ?_ | refine cT (by simp only [go_sem, Nat.reduceEqDiff, ↓reduceIte]; with_reducible rfl) ?_ | refine cF (by simp only [go_sem, Nat.reduceEqDiff, ↓reduceIte]; with_reducible rfl) ?_) | simp only [qS, Nat.reduceEqDiff, ↓reduceIte]))
      (refine AWP.ret ?_; first | refine retOk1 (by simp only [go_sem, seval, ↓reduceIte, decide_true, decide_false]; rfl) ?_ | refine retOk2 (by simp only [go_sem, seval, ↓reduceIte, decide_true, decide_false]; rfl) (by simp only [go_sem, seval, ↓reduceIte, decide_true, decide_false]; rfl) (by simp) ?_ | refine retOk3 (by simp only [go_sem, seval, ↓reduceIte, decide_true, decide_false]; rfl) (by simp only [go_sem, seval, ↓reduceIte, decide_true, decide_false]; rfl) (by simp only [go_sem, seval, ↓reduceIte, decide_true, decide_false]; rfl) (by simp) ?_)
      rw [hE]
theorem c_impl_countAtMost (m k most : Nat) (hm : 2 ≤ m) (hm2 : m ≤ 10000) (hk : k ≤ 1000) (h1 : 1 ≤ most) (h2 : most ≤ 1000000000000) : AFn Try.prog 109 [.int .i64 m, .int .i64 k, .int .i64 most] (.int .i64 (szM m k most)) := by
  refine AFn.of' ttOk (by decide) Try.func109 Try.ntmps109 (by rw [Try.results109]) (by rfl) (by rfl) (by simp) (by decide) (by simp only [go_sem, Nat.reduceAdd, ↓reduceIte]; rfl) mixed (fun C hP hM hC => ?_)
  (repeat (first | ((with_reducible refine rgn_cons rfl (fun K hK => ?_)); simp only [go_sem, seval, ↓reduceIte, decide_true, decide_false]; (refine hK _ _ _ (by simp only [go_sem, Nat.reduceEqDiff, ↓reduceIte]; rfl) ?_); clear hK; clear K) | (with_reducible first | refine rgn_nil (by first | trivial | kernel_rfl) ?_ | refine AWP.seq ?_ | refine tX hC hP (by kernel_rfl) ?_ | refine aX hC hM hP (by kernel_rfl) ?_ | refine AWP.skip ?_ | refine AWP.label ?_ | refine AWP.exit ?_ | refine AWP.block ?_ | refine cT (by simp only [go_sem, Nat.reduceEqDiff, ↓reduceIte]; with_reducible rfl) ?_ | refine cF (by simp only [go_sem, Nat.reduceEqDiff, ↓reduceIte]; with_reducible rfl) ?_) | simp only [qS, Nat.reduceEqDiff, ↓reduceIte]))
  refine AWP.loop (fun j : Nat => [(9, ⟨0, .val (.int .i64 j)⟩), (8, ⟨0, .val (.int .i64 k)⟩), (0, ⟨0, .val (.int .i64 m)⟩), (2, ⟨0, .val (.int .i64 most)⟩), (7, ⟨0, .val (.int .i64 (m ^ j : Nat))⟩)]) (fun j => j ≤ k ∧ m ^ j ≤ most) (fun j => k - j) 0 ⟨Nat.zero_le _, by rw [Nat.pow_zero]; exact h1⟩ (fun i => rfl) ?_ (fun j hj => ?_)
  · simp [Sub, lk]
  · by_cases hlt : j < k
    · have hs : m ^ j * m = m ^ (j + 1) := (Nat.pow_succ ..).symm
      have hb : m ^ (j + 1) ≤ 1000000000000 * 10000 := by rw [← hs]; exact Nat.mul_le_mul (by omega) hm2
      have hdiv : m ^ (j + 1) ≤ most ↔ m ^ j ≤ most / m := by rw [← hs]; exact (Nat.le_div_iff_mul_le (by omega)).symm
      have hdl : most / m ≤ most := Nat.div_le_self _ _
      have hdl2 : ((most / m : Nat) : Int) ≤ (most : Int) := Int.ofNat_le.2 hdl
      have hdl3 : 0 ≤ ((most / m : Nat) : Int) := Int.natCast_nonneg _
      have hwd := wid ((most / m : Nat) : Int) (by generalize ((most / m : Nat) : Int) = X at *; omega) (by generalize ((most / m : Nat) : Int) = X at *; omega)
      by_cases hq : m ^ (j + 1) ≤ most
      · (repeat (first | ((with_reducible refine rgn_cons rfl (fun K hK => ?_)); simp only [go_sem, seval, ↓reduceIte, decide_true, decide_false, show (j : Int) < (k : Int) by omega, decide_true, show (m : Int) ≠ 0 by omega, tdivN2, hwd, show ¬ ((m ^ j : Nat) : Int) > ((most / m : Nat) : Int) from Int.not_lt.2 (Int.ofNat_le.2 (hdiv.1 hq)), decide_false, ← Int.natCast_mul, hs, wid ((m ^ (j + 1) : Nat) : Int) (by omega) (by omega), wid ((j : Int) + 1) (by omega) (by omega)]; (refine hK _ _ _ (by simp only [go_sem, Nat.reduceEqDiff, ↓reduceIte]; rfl) ?_); clear hK; clear K) | (with_reducible first | refine rgn_nil (by first | trivial | kernel_rfl) ?_ | refine AWP.seq ?_ | refine tX hC hP (by kernel_rfl) ?_ | refine aX hC hM hP (by kernel_rfl) ?_ | refine AWP.skip ?_ | refine AWP.label ?_ | refine AWP.exit ?_ | refine AWP.block ?_ | refine cT (by simp only [go_sem, Nat.reduceEqDiff, ↓reduceIte]; with_reducible rfl) ?_ | refine cF (by simp only [go_sem, Nat.reduceEqDiff, ↓reduceIte]; with_reducible rfl) ?_) | simp only [qS, Nat.reduceEqDiff, ↓reduceIte]))
        exact ⟨j + 1, ⟨hlt, hq⟩, by omega, by simp [Sub, lk]⟩
      · have hE : szM m k most = most + 1 := if_neg (fun h => hq (Nat.le_trans (pow_mono1 hm hlt) h))
        have hgt : ((m ^ j : Nat) : Int) > ((most / m : Nat) : Int) := Int.ofNat_lt.2 (Nat.lt_of_not_le (mt hdiv.2 hq))
        have hmq : ((most / m : Nat) : Int) ≤ (most : Int) := Int.ofNat_le.2 hdl
        (repeat (first | ((with_reducible refine rgn_cons rfl (fun K hK => ?_)); simp only [go_sem, seval, ↓reduceIte, decide_true, decide_false, show (j : Int) < (k : Int) by omega, decide_true, show (m : Int) ≠ 0 by omega, tdivN2, hwd, hgt, wid ((most : Int) + 1) (by omega) (by omega)]; (refine hK _ _ _ (by simp only [go_sem, Nat.reduceEqDiff, ↓reduceIte]; rfl) ?_); clear hK; clear K) | (with_reducible first | refine rgn_nil (by first | trivial | kernel_rfl) ?_ | refine AWP.seq ?_ | refine tX hC hP (by kernel_rfl) ?_ | refine aX hC hM hP (by kernel_rfl) ?_ | refine AWP.skip ?_ | refine AWP.label ?_ | refine AWP.exit ?_ | refine AWP.block ?_ | refine cT (by simp only [go_sem, Nat.reduceEqDiff, ↓reduceIte]; with_reducible rfl) ?_ | refine cF (by simp only [go_sem, Nat.reduceEqDiff, ↓reduceIte]; with_reducible rfl) ?_) | simp only [qS, Nat.reduceEqDiff, ↓reduceIte]))
        (refine AWP.ret ?_; first | refine retOk1 (by simp only [go_sem, seval, ↓reduceIte, decide_true, decide_false]; rfl) ?_ | refine retOk2 (by simp only [go_sem, seval, ↓reduceIte, decide_true, decide_false]; rfl) (by simp only [go_sem, seval, ↓reduceIte, decide_true, decide_false]; rfl) (by simp) ?_ | refine retOk3 (by simp only [go_sem, seval, ↓reduceIte, decide_true, decide_false]; rfl) (by simp only [go_sem, seval, ↓reduceIte, decide_true, decide_false]; rfl) (by simp only [go_sem, seval, ↓reduceIte, decide_true, decide_false]; rfl) (by simp) ?_)
        rw [hE]; rfl
    · have e : j = k := by omega
      have hE : szM m k most = m ^ k := if_pos (by rw [← e]; exact hj.2)
      (repeat (first | ((with_reducible refine rgn_cons rfl (fun K hK => ?_)); simp only [go_sem, seval, ↓reduceIte, decide_true, decide_false, show ¬ (j : Int) < (k : Int) by omega, decide_false]; (refine hK _ _ _ (by simp only [go_sem, Nat.reduceEqDiff, ↓reduceIte]; rfl) ?_); clear hK; clear K) | (with_reducible first | refine rgn_nil (by first | trivial | kernel_rfl) ?_ | refine AWP.seq ?_ | refine tX hC hP (by kernel_rfl) ?_ | refine aX hC hM hP (by kernel_rfl) ?_ | refine AWP.skip ?_ | refine AWP.label ?_ | refine AWP.exit ?_ | refine AWP.block ?_ | refine cT (by simp only [go_sem, Nat.reduceEqDiff, ↓reduceIte]; with_reducible rfl) ?_ | refine cF (by simp only [go_sem, Nat.reduceEqDiff, ↓reduceIte]; with_reducible rfl) ?_) | simp only [qS, Nat.reduceEqDiff, ↓reduceIte]))
      (refine AWP.ret ?_; first | refine retOk1 (by simp only [go_sem, seval, ↓reduceIte, decide_true, decide_false]; rfl) ?_ | refine retOk2 (by simp only [go_sem, seval, ↓reduceIte, decide_true, decide_false]; rfl) (by simp only [go_sem, seval, ↓reduceIte, decide_true, decide_false]; rfl) (by simp) ?_ | refine retOk3 (by simp only [go_sem, seval, ↓reduceIte, decide_true, decide_false]; rfl) (by simp only [go_sem, seval, ↓reduceIte, decide_true, decide_false]; rfl) (by simp only [go_sem, seval, ↓reduceIte, decide_true, decide_false]; rfl) (by simp) ?_)
      rw [hE, e]
def zrB (l : List Int) : Bool := l.all (fun x => x == 0)
theorem c_spec_l16Zero (l : List Int) (hl : l.length ≤ 1000000000) : AFn Try.prog 108 [.sl false 2 (intL l)] (.bool (zrB l)) := by
  refine AFn.of' ttOk (by decide) Try.func108 Try.ntmps108 (by rw [Try.results108]) (by rfl) (by rfl) (by simp) (by decide) (by simp only [go_sem, Nat.reduceAdd, ↓reduceIte]; rfl) mixed (fun C hP hM hC => ?_)
  (repeat (first | ((with_reducible refine rgn_cons rfl (fun K hK => ?_)); simp only [go_sem, seval, ↓reduceIte, decide_true, decide_false]; (refine hK _ _ _ (by simp only [go_sem, Nat.reduceEqDiff, ↓reduceIte]; rfl) ?_); clear hK; clear K) | (with_reducible first | refine rgn_nil (by first | trivial | kernel_rfl) ?_ | refine AWP.seq ?_ | refine tX hC hP (by kernel_rfl) ?_ | refine aX hC hM hP (by kernel_rfl) ?_ | refine AWP.skip ?_ | refine AWP.label ?_ | refine AWP.exit ?_ | refine AWP.block ?_ | refine cT (by simp only [go_sem, Nat.reduceEqDiff, ↓reduceIte]; with_reducible rfl) ?_ | refine cF (by simp only [go_sem, Nat.reduceEqDiff, ↓reduceIte]; with_reducible rfl) ?_) | simp only [qS, Nat.reduceEqDiff, ↓reduceIte]))
  refine AWP.loop (fun i : Nat => [(3, ⟨0, .val (.int .i64 i)⟩), (0, ⟨0, .val (.sl false 2 (intL l))⟩)]) (fun i => i ≤ l.length ∧ ∀ j, j < i → (l.getD j 0 == 0) = true) (fun i => l.length - i) 0 ⟨Nat.zero_le _, fun j hj => by omega⟩ (fun i => rfl) ?_ (fun i hi => ?_)
  · simp [Sub, lk]
  · by_cases hlt : i < l.length
    · by_cases hx : l.getD i 0 = 0
      · (repeat (first | ((with_reducible refine rgn_cons rfl (fun K hK => ?_)); simp only [go_sem, seval, ↓reduceIte, decide_true, decide_false, show (i : Int) < (l.length : Int) by omega, decide_true, intL_getD l i hlt, Int.toNat_natCast, Int.natCast_nonneg, hx, show ((0 : Int) != 0) = false from rfl, wid ((i : Int) + 1) (by omega) (by omega)]; (refine hK _ _ _ (by simp only [go_sem, Nat.reduceEqDiff, ↓reduceIte]; rfl) ?_); clear hK; clear K) | (with_reducible first | refine rgn_nil (by first | trivial | kernel_rfl) ?_ | refine AWP.seq ?_ | refine tX hC hP (by kernel_rfl) ?_ | refine aX hC hM hP (by kernel_rfl) ?_ | refine AWP.skip ?_ | refine AWP.label ?_ | refine AWP.exit ?_ | refine AWP.block ?_ | refine cT (by simp only [go_sem, Nat.reduceEqDiff, ↓reduceIte]; with_reducible rfl) ?_ | refine cF (by simp only [go_sem, Nat.reduceEqDiff, ↓reduceIte]; with_reducible rfl) ?_) | simp only [qS, Nat.reduceEqDiff, ↓reduceIte]))
        refine ⟨i + 1, ⟨hlt, fun j hj => ?_⟩, by omega, by simp [Sub, lk]⟩
        by_cases e : j = i
        · rw [e, hx]; rfl
        · exact hi.2 j (by omega)
      · (repeat (first | ((with_reducible refine rgn_cons rfl (fun K hK => ?_)); simp only [go_sem, seval, ↓reduceIte, decide_true, decide_false, show (i : Int) < (l.length : Int) by omega, decide_true, intL_getD l i hlt, Int.toNat_natCast, Int.natCast_nonneg, show (l.getD i 0 != 0) = true by rw [bne_iff_ne]; exact hx]; (refine hK _ _ _ (by simp only [go_sem, Nat.reduceEqDiff, ↓reduceIte]; rfl) ?_); clear hK; clear K) | (with_reducible first | refine rgn_nil (by first | trivial | kernel_rfl) ?_ | refine AWP.seq ?_ | refine tX hC hP (by kernel_rfl) ?_ | refine aX hC hM hP (by kernel_rfl) ?_ | refine AWP.skip ?_ | refine AWP.label ?_ | refine AWP.exit ?_ | refine AWP.block ?_ | refine cT (by simp only [go_sem, Nat.reduceEqDiff, ↓reduceIte]; with_reducible rfl) ?_ | refine cF (by simp only [go_sem, Nat.reduceEqDiff, ↓reduceIte]; with_reducible rfl) ?_) | simp only [qS, Nat.reduceEqDiff, ↓reduceIte]))
        (refine AWP.ret ?_; first | refine retOk1 (by simp only [go_sem, seval, ↓reduceIte, decide_true, decide_false]; rfl) ?_ | refine retOk2 (by simp only [go_sem, seval, ↓reduceIte, decide_true, decide_false]; rfl) (by simp only [go_sem, seval, ↓reduceIte, decide_true, decide_false]; rfl) (by simp) ?_ | refine retOk3 (by simp only [go_sem, seval, ↓reduceIte, decide_true, decide_false]; rfl) (by simp only [go_sem, seval, ↓reduceIte, decide_true, decide_false]; rfl) (by simp only [go_sem, seval, ↓reduceIte, decide_true, decide_false]; rfl) (by simp) ?_)
        rw [zrB, all_not hlt (by rw [beq_eq_false_iff_ne]; exact hx)]
    · (repeat (first | ((with_reducible refine rgn_cons rfl (fun K hK => ?_)); simp only [go_sem, seval, ↓reduceIte, decide_true, decide_false, show ¬ (i : Int) < (l.length : Int) by omega, decide_false]; (refine hK _ _ _ (by simp only [go_sem, Nat.reduceEqDiff, ↓reduceIte]; rfl) ?_); clear hK; clear K) | (with_reducible first | refine rgn_nil (by first | trivial | kernel_rfl) ?_ | refine AWP.seq ?_ | refine tX hC hP (by kernel_rfl) ?_ | refine aX hC hM hP (by kernel_rfl) ?_ | refine AWP.skip ?_ | refine AWP.label ?_ | refine AWP.exit ?_ | refine AWP.block ?_ | refine cT (by simp only [go_sem, Nat.reduceEqDiff, ↓reduceIte]; with_reducible rfl) ?_ | refine cF (by simp only [go_sem, Nat.reduceEqDiff, ↓reduceIte]; with_reducible rfl) ?_) | simp only [qS, Nat.reduceEqDiff, ↓reduceIte]))
      (refine AWP.ret ?_; first | refine retOk1 (by simp only [go_sem, seval, ↓reduceIte, decide_true, decide_false]; rfl) ?_ | refine retOk2 (by simp only [go_sem, seval, ↓reduceIte, decide_true, decide_false]; rfl) (by simp only [go_sem, seval, ↓reduceIte, decide_true, decide_false]; rfl) (by simp) ?_ | refine retOk3 (by simp only [go_sem, seval, ↓reduceIte, decide_true, decide_false]; rfl) (by simp only [go_sem, seval, ↓reduceIte, decide_true, decide_false]; rfl) (by simp only [go_sem, seval, ↓reduceIte, decide_true, decide_false]; rfl) (by simp) ?_)
      rw [zrB, all_of_prefix (fun j hj => hi.2 j (by omega))]
set_option maxHeartbeats 2000000 in
theorem c_impl_factors (m : Nat) (hm : 2 ≤ m) (hm2 : m ≤ 10000) : AFn Try.prog 110 [.int .i64 m] (.sl true 26 (rowsO (fcL m 2 m))) := by
  refine AFn.of' ttOk (by decide) Try.func110 Try.ntmps110 (by rw [Try.results110]) (by rfl) (by rfl) (by simp) (by decide) (by simp only [go_sem, Nat.reduceAdd, ↓reduceIte]; rfl) mixed (fun C hP hM hC => ?_)
  (repeat (first | ((with_reducible refine rgn_cons rfl (fun K hK => ?_)); simp only [go_sem, seval, ↓reduceIte, decide_true, decide_false]; (refine hK _ _ _ (by simp only [go_sem, Nat.reduceEqDiff, ↓reduceIte]; rfl) ?_); clear hK; clear K) | (with_reducible first | refine rgn_nil (by first | trivial | kernel_rfl) ?_ | refine AWP.seq ?_ | refine tX hC hP (by kernel_rfl) ?_ | refine aX hC hM hP (by kernel_rfl) ?_ | refine AWP.skip ?_ | refine AWP.label ?_ | refine AWP.exit ?_ | refine AWP.block ?_ | refine cT (by simp only [go_sem, Nat.reduceEqDiff, ↓reduceIte]; with_reducible rfl) ?_ | refine cF (by simp only [go_sem, Nat.reduceEqDiff, ↓reduceIte]; with_reducible rfl) ?_) | simp only [qS, Nat.reduceEqDiff, ↓reduceIte]))
  refine AWP.loop (fun w : Nat × Nat × List (List Int) × Nat × Nat => [(0, ⟨0, .val (.int .i64 w.1)⟩), (4, ⟨0, .val (.int .i64 w.2.1)⟩), (3, ⟨w.2.2.2.1, .own (.sl true 26 (rowsO w.2.2.1))⟩)]) (fun w => 0 < w.1 ∧ w.1 ≤ m ∧ 2 ≤ w.2.1 ∧ w.2.1 ≤ 10002 ∧ ND w.2.1 w.1 ∧ w.1 < w.2.1 + w.2.2.2.2 ∧ w.2.2.1.length + w.2.2.2.2 ≤ m ∧ w.2.2.1 ++ fcL w.2.2.2.2 w.2.1 w.1 = fcL m 2 m) (fun w => w.2.2.2.2) (m, 2, [], 1, m) ⟨by simp only; omega, Nat.le_refl _, Nat.le_refl _, by simp only; omega, fun p h1 h2 => by simp only at h2; omega, by simp only; omega, by simp, rfl⟩ (fun i => rfl) ?_ (fun w hw => ?_)
  · simp [Sub, lk, rowsO]
  · obtain ⟨n, q, out, v, F⟩ := w
    simp only at hw ⊢
    obtain ⟨h0, h1, h2, h3, hN, hF, hl, hE⟩ := hw
    by_cases hn : 1 < n
    · have hqn := hN.le hn
      obtain ⟨F, rfl⟩ : ∃ G, F = G + 1 := ⟨F - 1, by omega⟩
      rw [fcL_succ hn] at hE
      have e := fcE_facts hN h2 hn
      have hN2 := hN.upto e.2.2
      have f := strip_facts (q := fcE q n) (by omega) n h0
      have hqq : q * q ≤ 10002 * 10002 := Nat.mul_le_mul h3 h3
      by_cases hh : n < q * q
      · have hE2 : fcE q n = n := if_pos hh
        rw [hE2] at hE e hN2 f
        rw [if_pos (Nat.mod_self n)] at hE
        (repeat (first | ((with_reducible refine rgn_cons rfl (fun K hK => ?_)); simp only [go_sem, seval, ↓reduceIte, decide_true, decide_false, show (1 : Int) < (n : Int) by omega, decide_true, ← Int.natCast_mul, wid ((q * q : Nat) : Int) (by omega) (by omega), show ((q * q : Nat) : Int) > (n : Int) by omega]; (refine hK _ _ _ (by simp only [go_sem, Nat.reduceEqDiff, ↓reduceIte]; rfl) ?_); clear hK; clear K) | (with_reducible first | refine rgn_nil (by first | trivial | kernel_rfl) ?_ | refine AWP.seq ?_ | refine tX hC hP (by kernel_rfl) ?_ | refine aX hC hM hP (by kernel_rfl) ?_ | refine AWP.skip ?_ | refine AWP.label ?_ | refine AWP.exit ?_ | refine AWP.block ?_ | refine cT (by simp only [go_sem, Nat.reduceEqDiff, ↓reduceIte]; with_reducible rfl) ?_ | refine cF (by simp only [go_sem, Nat.reduceEqDiff, ↓reduceIte]; with_reducible rfl) ?_) | simp only [qS, Nat.reduceEqDiff, ↓reduceIte]))
        refine AWP.loop (fun x : Nat × Nat => [(0, ⟨0, .val (.int .i64 x.1)⟩), (4, ⟨0, .val (.int .i64 n)⟩), (5, ⟨0, .val (.int .i64 x.2)⟩), (3, ⟨v, .own (.sl true 26 (rowsO out))⟩)]) (fun x => 0 < x.1 ∧ x.1 ≤ n ∧ strip n x.1 = strip n n ∧ x.2 + vl n x.1 = vl n n ∧ x.2 + x.1 ≤ n) (fun x => x.1) (n, 0) ⟨h0, Nat.le_refl _, rfl, by simp, by simp⟩ (fun i => rfl) ?_ (fun x hx => ?_)
        · simp [Sub, lk]
        · obtain ⟨x, y⟩ := x
          simp only at hx ⊢
          by_cases hx0 : x % n = 0
          · have hpos : 0 < x / n := Nat.div_pos (Nat.le_of_dvd hx.1 (Nat.dvd_of_mod_eq_zero hx0)) (by omega)
            have hlt := Nat.div_lt_self hx.1 (show 1 < n by omega)
            have hv := vl_yes (show 2 ≤ n by omega) hx.1 hx0
            (repeat (first | ((with_reducible refine rgn_cons rfl (fun K hK => ?_)); simp only [go_sem, seval, ↓reduceIte, decide_true, decide_false, show (n : Int) ≠ 0 by omega, tmodN2, tdivN2, hx0, Int.natCast_zero, show ((0 : Int) == 0) = true from rfl, wid ((x / n : Nat) : Int) (by omega) (by omega), wid ((y : Int) + 1) (by omega) (by omega)]; (refine hK _ _ _ (by simp only [go_sem, Nat.reduceEqDiff, ↓reduceIte]; rfl) ?_); clear hK; clear K) | (with_reducible first | refine rgn_nil (by first | trivial | kernel_rfl) ?_ | refine AWP.seq ?_ | refine tX hC hP (by kernel_rfl) ?_ | refine aX hC hM hP (by kernel_rfl) ?_ | refine AWP.skip ?_ | refine AWP.label ?_ | refine AWP.exit ?_ | refine AWP.block ?_ | refine cT (by simp only [go_sem, Nat.reduceEqDiff, ↓reduceIte]; with_reducible rfl) ?_ | refine cF (by simp only [go_sem, Nat.reduceEqDiff, ↓reduceIte]; with_reducible rfl) ?_) | simp only [qS, Nat.reduceEqDiff, ↓reduceIte]))
            exact ⟨(x / n, y + 1), ⟨hpos, by simp only; omega, by simp only; rw [← strip_yes (by omega) hx.1 hx0]; exact hx.2.2.1, by simp only; omega, by simp only; omega⟩, hlt, by simp [Sub, lk]⟩
          · have hx2 : x = strip n n := by rw [← hx.2.2.1, strip_no hx0]
            have hv := vl_no hx0
            have hvp := vl_yes (show 2 ≤ n by omega) h0 (Nat.mod_self n)
            have hy : y = vl n n := by omega
            (repeat (first | ((with_reducible refine rgn_cons rfl (fun K hK => ?_)); simp only [go_sem, seval, ↓reduceIte, decide_true, decide_false, show (n : Int) ≠ 0 by omega, tmodN2, show (((x % n : Nat) : Int) == 0) = false by rw [beq_eq_false_iff_ne]; omega, show (y : Int) > 0 by omega, show (0 : Int) < (y : Int) by omega, decide_true, show [T.int .i64 (n : Int), T.int .i64 (y : Int)] = intL [(n : Int), (y : Int)] from rfl, rowsO_snocT, show out.length + 1 ≤ 1099511627776 by omega, show (out.length + 1) * 24 ≤ 140737488355328 by omega, wid ((n : Int) + 1) (by omega) (by omega)]; (refine hK _ _ _ (by simp only [go_sem, Nat.reduceEqDiff, ↓reduceIte]; rfl) ?_); clear hK; clear K) | (with_reducible first | refine rgn_nil (by first | trivial | kernel_rfl) ?_ | refine AWP.seq ?_ | refine tX hC hP (by kernel_rfl) ?_ | refine aX hC hM hP (by kernel_rfl) ?_ | refine AWP.skip ?_ | refine AWP.label ?_ | refine AWP.exit ?_ | refine AWP.block ?_ | refine cT (by simp only [go_sem, Nat.reduceEqDiff, ↓reduceIte]; with_reducible rfl) ?_ | refine cF (by simp only [go_sem, Nat.reduceEqDiff, ↓reduceIte]; with_reducible rfl) ?_) | simp only [qS, Nat.reduceEqDiff, ↓reduceIte]))
            exact ⟨(x, n + 1, out ++ [[(n : Int), (y : Int)]], v + 1, F), ⟨hx.1, by simp only; omega, by simp only; omega, by simp only; omega, by simp only [hx2]; exact hN2.strip (by omega) h0, by simp only [hx2]; omega, by simp; omega, by simp only [hx2, hy]; rw [List.append_assoc]; exact hE⟩, by simp only; omega, by simp [Sub, lk]⟩
      · have hE2 : fcE q n = q := if_neg hh
        rw [hE2] at hE e hN2 f
        by_cases hd : n % q = 0
        · rw [if_pos hd] at hE
          (repeat (first | ((with_reducible refine rgn_cons rfl (fun K hK => ?_)); simp only [go_sem, seval, ↓reduceIte, decide_true, decide_false, show (1 : Int) < (n : Int) by omega, decide_true, ← Int.natCast_mul, wid ((q * q : Nat) : Int) (by omega) (by omega), show ¬ ((q * q : Nat) : Int) > (n : Int) by omega, decide_false]; (refine hK _ _ _ (by simp only [go_sem, Nat.reduceEqDiff, ↓reduceIte]; rfl) ?_); clear hK; clear K) | (with_reducible first | refine rgn_nil (by first | trivial | kernel_rfl) ?_ | refine AWP.seq ?_ | refine tX hC hP (by kernel_rfl) ?_ | refine aX hC hM hP (by kernel_rfl) ?_ | refine AWP.skip ?_ | refine AWP.label ?_ | refine AWP.exit ?_ | refine AWP.block ?_ | refine cT (by simp only [go_sem, Nat.reduceEqDiff, ↓reduceIte]; with_reducible rfl) ?_ | refine cF (by simp only [go_sem, Nat.reduceEqDiff, ↓reduceIte]; with_reducible rfl) ?_) | simp only [qS, Nat.reduceEqDiff, ↓reduceIte]))
          refine AWP.loop (fun x : Nat × Nat => [(0, ⟨0, .val (.int .i64 x.1)⟩), (4, ⟨0, .val (.int .i64 q)⟩), (5, ⟨0, .val (.int .i64 x.2)⟩), (3, ⟨v, .own (.sl true 26 (rowsO out))⟩)]) (fun x => 0 < x.1 ∧ x.1 ≤ n ∧ strip q x.1 = strip q n ∧ x.2 + vl q x.1 = vl q n ∧ x.2 + x.1 ≤ n) (fun x => x.1) (n, 0) ⟨h0, Nat.le_refl _, rfl, by simp, by simp⟩ (fun i => rfl) ?_ (fun x hx => ?_)
          · simp [Sub, lk]
          · obtain ⟨x, y⟩ := x
            simp only at hx ⊢
            by_cases hx0 : x % q = 0
            · have hpos : 0 < x / q := Nat.div_pos (Nat.le_of_dvd hx.1 (Nat.dvd_of_mod_eq_zero hx0)) (by omega)
              have hlt := Nat.div_lt_self hx.1 (show 1 < q by omega)
              have hv := vl_yes h2 hx.1 hx0
              (repeat (first | ((with_reducible refine rgn_cons rfl (fun K hK => ?_)); simp only [go_sem, seval, ↓reduceIte, decide_true, decide_false, show (q : Int) ≠ 0 by omega, tmodN2, tdivN2, hx0, Int.natCast_zero, show ((0 : Int) == 0) = true from rfl, wid ((x / q : Nat) : Int) (by omega) (by omega), wid ((y : Int) + 1) (by omega) (by omega)]; (refine hK _ _ _ (by simp only [go_sem, Nat.reduceEqDiff, ↓reduceIte]; rfl) ?_); clear hK; clear K) | (with_reducible first | refine rgn_nil (by first | trivial | kernel_rfl) ?_ | refine AWP.seq ?_ | refine tX hC hP (by kernel_rfl) ?_ | refine aX hC hM hP (by kernel_rfl) ?_ | refine AWP.skip ?_ | refine AWP.label ?_ | refine AWP.exit ?_ | refine AWP.block ?_ | refine cT (by simp only [go_sem, Nat.reduceEqDiff, ↓reduceIte]; with_reducible rfl) ?_ | refine cF (by simp only [go_sem, Nat.reduceEqDiff, ↓reduceIte]; with_reducible rfl) ?_) | simp only [qS, Nat.reduceEqDiff, ↓reduceIte]))
              exact ⟨(x / q, y + 1), ⟨hpos, by simp only; omega, by simp only; rw [← strip_yes h2 hx.1 hx0]; exact hx.2.2.1, by simp only; omega, by simp only; omega⟩, hlt, by simp [Sub, lk]⟩
            · have hx2 : x = strip q n := by rw [← hx.2.2.1, strip_no hx0]
              have hv := vl_no hx0
              have hvp := vl_yes h2 h0 hd
              have hy : y = vl q n := by omega
              (repeat (first | ((with_reducible refine rgn_cons rfl (fun K hK => ?_)); simp only [go_sem, seval, ↓reduceIte, decide_true, decide_false, show (q : Int) ≠ 0 by omega, tmodN2, show (((x % q : Nat) : Int) == 0) = false by rw [beq_eq_false_iff_ne]; omega, show (y : Int) > 0 by omega, show (0 : Int) < (y : Int) by omega, decide_true, show [T.int .i64 (q : Int), T.int .i64 (y : Int)] = intL [(q : Int), (y : Int)] from rfl, rowsO_snocT, show out.length + 1 ≤ 1099511627776 by omega, show (out.length + 1) * 24 ≤ 140737488355328 by omega, wid ((q : Int) + 1) (by omega) (by omega)]; (refine hK _ _ _ (by simp only [go_sem, Nat.reduceEqDiff, ↓reduceIte]; rfl) ?_); clear hK; clear K) | (with_reducible first | refine rgn_nil (by first | trivial | kernel_rfl) ?_ | refine AWP.seq ?_ | refine tX hC hP (by kernel_rfl) ?_ | refine aX hC hM hP (by kernel_rfl) ?_ | refine AWP.skip ?_ | refine AWP.label ?_ | refine AWP.exit ?_ | refine AWP.block ?_ | refine cT (by simp only [go_sem, Nat.reduceEqDiff, ↓reduceIte]; with_reducible rfl) ?_ | refine cF (by simp only [go_sem, Nat.reduceEqDiff, ↓reduceIte]; with_reducible rfl) ?_) | simp only [qS, Nat.reduceEqDiff, ↓reduceIte]))
              exact ⟨(x, q + 1, out ++ [[(q : Int), (y : Int)]], v + 1, F), ⟨hx.1, by simp only; omega, by simp only; omega, by simp only; omega, by simp only [hx2]; exact hN2.strip (by omega) h0, by simp only [hx2]; omega, by simp; omega, by simp only [hx2, hy]; rw [List.append_assoc]; exact hE⟩, by simp only; omega, by simp [Sub, lk]⟩
        · rw [if_neg hd] at hE
          (repeat (first | ((with_reducible refine rgn_cons rfl (fun K hK => ?_)); simp only [go_sem, seval, ↓reduceIte, decide_true, decide_false, show (1 : Int) < (n : Int) by omega, decide_true, ← Int.natCast_mul, wid ((q * q : Nat) : Int) (by omega) (by omega), show ¬ ((q * q : Nat) : Int) > (n : Int) by omega, decide_false]; (refine hK _ _ _ (by simp only [go_sem, Nat.reduceEqDiff, ↓reduceIte]; rfl) ?_); clear hK; clear K) | (with_reducible first | refine rgn_nil (by first | trivial | kernel_rfl) ?_ | refine AWP.seq ?_ | refine tX hC hP (by kernel_rfl) ?_ | refine aX hC hM hP (by kernel_rfl) ?_ | refine AWP.skip ?_ | refine AWP.label ?_ | refine AWP.exit ?_ | refine AWP.block ?_ | refine cT (by simp only [go_sem, Nat.reduceEqDiff, ↓reduceIte]; with_reducible rfl) ?_ | refine cF (by simp only [go_sem, Nat.reduceEqDiff, ↓reduceIte]; with_reducible rfl) ?_) | simp only [qS, Nat.reduceEqDiff, ↓reduceIte]))
          refine AWP.loop (fun x : Nat => [(0, ⟨0, .val (.int .i64 n)⟩), (4, ⟨0, .val (.int .i64 q)⟩), (5, ⟨0, .val (.int .i64 0)⟩), (3, ⟨v, .own (.sl true 26 (rowsO out))⟩)]) (fun x => True) (fun x => 0) 0 trivial (fun i => rfl) ?_ (fun x hx => ?_)
          · simp [Sub, lk]
          · (repeat (first | ((with_reducible refine rgn_cons rfl (fun K hK => ?_)); simp only [go_sem, seval, ↓reduceIte, decide_true, decide_false, show (q : Int) ≠ 0 by omega, tmodN2, show (((n % q : Nat) : Int) == 0) = false by rw [beq_eq_false_iff_ne]; omega, show ¬ (0 : Int) > 0 by decide, show ¬ (0 : Int) < 0 by decide, decide_false, wid ((q : Int) + 1) (by omega) (by omega)]; (refine hK _ _ _ (by simp only [go_sem, Nat.reduceEqDiff, ↓reduceIte]; rfl) ?_); clear hK; clear K) | (with_reducible first | refine rgn_nil (by first | trivial | kernel_rfl) ?_ | refine AWP.seq ?_ | refine tX hC hP (by kernel_rfl) ?_ | refine aX hC hM hP (by kernel_rfl) ?_ | refine AWP.skip ?_ | refine AWP.label ?_ | refine AWP.exit ?_ | refine AWP.block ?_ | refine cT (by simp only [go_sem, Nat.reduceEqDiff, ↓reduceIte]; with_reducible rfl) ?_ | refine cF (by simp only [go_sem, Nat.reduceEqDiff, ↓reduceIte]; with_reducible rfl) ?_) | simp only [qS, Nat.reduceEqDiff, ↓reduceIte]))
            exact ⟨(n, q + 1, out, v, F), ⟨h0, h1, by simp only; omega, by simp only; omega, hN.next hd, by simp only; omega, by simp only; omega, hE⟩, by simp only; omega, by simp [Sub, lk]⟩
    · rw [fcL_end _ _ (by omega), List.append_nil] at hE
      (repeat (first | ((with_reducible refine rgn_cons rfl (fun K hK => ?_)); simp only [go_sem, seval, ↓reduceIte, decide_true, decide_false, show ¬ (1 : Int) < (n : Int) by omega, decide_false]; (refine hK _ _ _ (by simp only [go_sem, Nat.reduceEqDiff, ↓reduceIte]; rfl) ?_); clear hK; clear K) | (with_reducible first | refine rgn_nil (by first | trivial | kernel_rfl) ?_ | refine AWP.seq ?_ | refine tX hC hP (by kernel_rfl) ?_ | refine aX hC hM hP (by kernel_rfl) ?_ | refine AWP.skip ?_ | refine AWP.label ?_ | refine AWP.exit ?_ | refine AWP.block ?_ | refine cT (by simp only [go_sem, Nat.reduceEqDiff, ↓reduceIte]; with_reducible rfl) ?_ | refine cF (by simp only [go_sem, Nat.reduceEqDiff, ↓reduceIte]; with_reducible rfl) ?_) | simp only [qS, Nat.reduceEqDiff, ↓reduceIte]))
      (refine AWP.ret ?_; first | refine retOk1 (by simp only [go_sem, seval, ↓reduceIte, decide_true, decide_false]; rfl) ?_ | refine retOk2 (by simp only [go_sem, seval, ↓reduceIte, decide_true, decide_false]; rfl) (by simp only [go_sem, seval, ↓reduceIte, decide_true, decide_false]; rfl) (by simp) ?_ | refine retOk3 (by simp only [go_sem, seval, ↓reduceIte, decide_true, decide_false]; rfl) (by simp only [go_sem, seval, ↓reduceIte, decide_true, decide_false]; rfl) (by simp only [go_sem, seval, ↓reduceIte, decide_true, decide_false]; rfl) (by simp) ?_)
      rw [hE]
end Go.Proofs.Ytamdpfnmclkljaa

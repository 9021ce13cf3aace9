/-
  Orders of points.
-/
import Derived.Test.YtamdpfnmclkljaaRd
namespace Go.Proofs.Ytamdpfnmclkljaa
open Go.RowKit
set_option linter.unusedSimpArgs false
set_option linter.unusedVariables false
set_option linter.unusedSectionVars false
set_option maxRecDepth 20000
-- Orders of points.
theorem tl0 {m : Int} {a b : List Int} {d : Nat} : at' (timesL m a b d) 0 = at' a 0 * at' b 0 % m := by
  rw [timesL, at_tab (by omega), cv, sm, sm]
  simp
theorem pw0 {m : Int} {a : List Int} {d : Nat} (h : at' a 0 = 0) (i : Nat) : at' (pwS m a d (i + 1)) 0 = 0 := by
  rw [pwS, tl0, h]; simp
theorem putR0 {m : Int} {t : Nat → Nat → Int} {a b : List Int} {d i : Nat} {acc : List Int} (ha : at' a 0 = 0) (hb : at' b 0 = 0) (ht : t 0 0 = 0) (h : at' acc 0 = 0) : ∀ j, at' (putR m t (pwS m a d) (pwS m b d) d i acc j) 0 = 0
  | 0 => h
  | j + 1 => by
    unfold putR
    split
    · exact putR0 ha hb ht h j
    · rename_i hne
      rw [addL, at_tab (by omega), putR0 ha hb ht h j, scL, at_tab (by omega), tl0]
      cases i with
      | zero =>
        cases j with
        | zero => exact absurd ht hne
        | succ j => rw [pw0 hb]; simp
      | succ i => rw [pw0 ha]; simp
theorem put0 {m : Int} {t : Nat → Nat → Int} {a b : List Int} {d : Nat} (ha : at' a 0 = 0) (hb : at' b 0 = 0) (ht : t 0 0 = 0) : at' (putL m t a b d) 0 = 0 := by
  have key : ∀ i, at' (putO m t (pwS m a d) (pwS m b d) d i) 0 = 0 := fun i => by
    induction i with
    | zero => rw [putO, at_tab (by omega)]
    | succ i ih => exact putR0 ha hb ht ih _
  exact key _
theorem mu0 {m : Int} {t : Nat → Nat → Int} {d : Nat} (ht : t 0 0 = 0) (k : Nat) : ∀ {o b : List Int}, at' o 0 = 0 → at' b 0 = 0 → at' (muL m t d o b k) 0 = 0 := by
  induction k using Nat.strongRecOn with
  | _ k ih =>
    intro o b h1 h2
    rcases Nat.eq_zero_or_pos k with e | e
    · subst e; rw [muL_zero]; exact h1
    · by_cases h : k % 2 = 1
      · rw [muL_odd h]; exact ih _ (by omega) (put0 h1 h2 ht) (put0 h2 h2 ht)
      · rw [muL_even e (by omega)]; exact ih _ (by omega) h1 (put0 h2 h2 ht)
theorem zrB_cons {l : List Int} (h : at' l 0 = 0) (hl : 0 < l.length) : zrB l = zrB (l.drop 1) := by
  cases l with
  | nil => simp at hl
  | cons x l =>
    have hx : x = 0 := h
    simp [zrB, hx]
/-- Whether the multiple of a point is the point of zeros. -/
def klB (m : Int) (ll : List (List Int)) (x : List Int) (n : Nat) : Bool := zrB (mpL m ll n x)
theorem kl_all {m : Int} {ll : List (List Int)} {x : List Int} {n : Nat} (h : ptC m ll [x] = 0) : zrB (mzL m (pc (tab2 (x.length + 1) (pc ll))) x.length (0 :: x) n) = klB m ll x n := by
  have hp := pt_one h
  have hw := lawB_of (ptC_zero h).1
  have f := mzL_facts (m := m) (by omega) (pc (tab2 (x.length + 1) (pc ll))) x.length (0 :: x) n
  unfold klB mpL
  refine zrB_cons ?_ (by omega)
  have ht : pc (tab2 (x.length + 1) (pc ll)) 0 0 = 0 := by
    rw [pc_tab2 (by omega), hw.2.1 0 (by omega), if_neg (by omega)]
  rw [mzL, if_neg (by omega)]
  exact mu0 ht _ (by rw [zrL, at_tab (by omega)]) rfl
/-- A number, divided by q as long as it can and the test holds. -/
def rdc (Z : Nat → Bool) (q n : Nat) : Nat := if h : 2 ≤ q ∧ 0 < n ∧ n % q = 0 ∧ Z (n / q) = true then rdc Z q (n / q) else n
  termination_by n
  decreasing_by exact Nat.div_lt_self h.2.1 h.1
theorem rdc_yes {Z : Nat → Bool} {q n : Nat} (h1 : 2 ≤ q) (h2 : 0 < n) (h3 : n % q = 0) (h4 : Z (n / q) = true) : rdc Z q n = rdc Z q (n / q) := by rw [rdc, dif_pos ⟨h1, h2, h3, h4⟩]
theorem rdc_no {Z : Nat → Bool} {q n : Nat} (h : n % q ≠ 0 ∨ Z (n / q) = false) : rdc Z q n = n := by
  rw [rdc, dif_neg (fun e => by rcases h with h | h; exact h e.2.2.1; rw [h] at e; cases e.2.2.2)]
theorem rdc_facts {Z : Nat → Bool} {q : Nat} : ∀ n, 0 < n → 0 < rdc Z q n ∧ rdc Z q n ≤ n := by
  intro n
  induction n using Nat.strongRecOn with
  | _ n ih =>
    intro hn
    rw [rdc]
    split
    · rename_i h
      have hlt := Nat.div_lt_self h.2.1 h.1
      have := ih (n / q) hlt (Nat.div_pos (Nat.le_of_dvd hn (Nat.dvd_of_mod_eq_zero h.2.2.1)) (by omega))
      omega
    · exact ⟨hn, Nat.le_refl _⟩
def rdcL (Z : Nat → Bool) (l : List Int) (n : Nat) : Nat := l.foldl (fun n q => rdc Z q.toNat n) n
theorem rdcL_take {Z : Nat → Bool} {l : List Int} {n i : Nat} (h : i < l.length) : rdcL Z (l.take (i + 1)) n = rdc Z (l.getD i 0).toNat (rdcL Z (l.take i) n) := by
  rw [List.take_add_one, List.getElem?_eq_getElem h, rdcL, List.foldl_append, List.getD_eq_getElem?_getD, List.getElem?_eq_getElem h]; rfl
theorem rdcL_facts {Z : Nat → Bool} {n : Nat} (hn : 0 < n) : ∀ (l : List Int), 0 < rdcL Z l n ∧ rdcL Z l n ≤ n := by
  have key : ∀ (l : List Int) (k : Nat), 0 < k → k ≤ n → 0 < rdcL Z l k ∧ rdcL Z l k ≤ n := by
    intro l
    induction l with
    | nil => intro k h1 h2; exact ⟨h1, h2⟩
    | cons q l ih =>
      intro k h1 h2
      have f := rdc_facts (Z := Z) (q := q.toNat) k h1
      exact ih _ f.1 (Nat.le_trans f.2 h2)
  exact fun l => key l n hn (Nat.le_refl _)
noncomputable def opC (m : Int) (ll : List (List Int)) (x : List Int) : Int := if ptC m ll [x] = 0 then (if szM m.toNat x.length 1000000000000 = 1000000000001 then 3 else 0) else ptC m ll [x]
noncomputable def opV (m : Int) (ll : List (List Int)) (x : List Int) : Int := if opC m ll x = 0 then (rdcL (klB m ll x) (pfL m.toNat 2 m.toNat) (szM m.toNat x.length 1000000000000) : Int) else 0
theorem szM_facts {m k : Nat} (hm : 2 ≤ m) : 0 < szM m k 1000000000000 ∧ szM m k 1000000000000 ≤ 1000000000001 := by
  unfold szM
  split
  · exact ⟨Nat.pow_pos (by omega), by omega⟩
  · omega
set_option maxHeartbeats 4000000 in
theorem c_spec_OrderOfPointUnder (m : Int) (ll : List (List Int)) (x : List Int) (hs : Sm ll) (hx : x.length ≤ 1000000000) : AFn Try.prog 56 [.agg [.int .i64 m, .sl false 26 (rowsF ll)], .sl false 2 (intL x)] (.tup [.int .i64 (opV m ll x), .int .i64 (opC m ll x)]) := by
  refine AFn.of' ttOk (by decide) Try.func56 Try.ntmps56 (by rw [Try.results56]) (by rfl) (by rfl) (by simp) (by decide) (by simp only [go_sem, Nat.reduceAdd, ↓reduceIte]; rfl) mixed (fun C hP hM hC => ?_)
  have hA := c_spec_l16Code m ll [x] hs (by simp) (fun i => Nat.le_trans (getD_one x i) hx)
  by_cases hc : ptC m ll [x] = 0
  · obtain ⟨h1, h2, h3, h4, h5, h6, h7, h8⟩ := pt_one hc
    obtain ⟨M, rfl⟩ : ∃ M : Nat, m = (M : Int) := ⟨m.toNat, by omega⟩
    have hSz := c_spec_l16Size M x.length 1000000000000 (by omega) (by omega) (by omega) (by omega) (by omega)
    have hsf := szM_facts (m := M) (k := x.length) (by omega)
    by_cases hq : szM M x.length 1000000000000 = 1000000000001
    · have e : opC M ll x = 3 := by simp only [opC, if_pos hc, Int.toNat_natCast, if_pos hq]
      rw [hq] at hSz
      (repeat (first | ((with_reducible refine rgn_cons rfl (fun K hK => ?_)); simp only [go_sem, seval, ↓reduceIte, decide_true, decide_false, hc, show ((0 : Int) != 0) = false from rfl, one_row, show ((1000000000001 : Nat) : Int) > 1000000000000 by decide]; (first | refine hK _ _ _ (by simp only [go_sem, Nat.reduceEqDiff, ↓reduceIte]; rfl) ?_ | refine ⟨_, hA, hK _ _ _ (by simp only [go_sem, Nat.reduceEqDiff, ↓reduceIte]; rfl) ?_⟩ | refine ⟨_, hSz, hK _ _ _ (by simp only [go_sem, Nat.reduceEqDiff, ↓reduceIte]; rfl) ?_⟩); clear hK; clear K) | (with_reducible first | refine rgn_nil (by first | trivial | kernel_rfl) ?_ | refine AWP.seq ?_ | refine tX hC hP (by kernel_rfl) ?_ | refine aX hC hM hP (by kernel_rfl) ?_ | refine AWP.skip ?_ | refine AWP.label ?_ | refine AWP.exit ?_ | refine AWP.block ?_ | refine cT (by simp only [go_sem, Nat.reduceEqDiff, ↓reduceIte]; with_reducible rfl) ?_ | refine cF (by simp only [go_sem, Nat.reduceEqDiff, ↓reduceIte]; with_reducible rfl) ?_) | simp only [qS, Nat.reduceEqDiff, ↓reduceIte]))
      (refine AWP.ret ?_; first | refine retOk1 (by simp only [go_sem, seval, ↓reduceIte, decide_true, decide_false]; rfl) ?_ | refine retOk2 (by simp only [go_sem, seval, ↓reduceIte, decide_true, decide_false]; rfl) (by simp only [go_sem, seval, ↓reduceIte, decide_true, decide_false]; rfl) (by simp) ?_ | refine retOk3 (by simp only [go_sem, seval, ↓reduceIte, decide_true, decide_false]; rfl) (by simp only [go_sem, seval, ↓reduceIte, decide_true, decide_false]; rfl) (by simp only [go_sem, seval, ↓reduceIte, decide_true, decide_false]; rfl) (by simp) ?_)
      simp [opV, e]
    · have e : opC M ll x = 0 := by simp only [opC, if_pos hc, Int.toNat_natCast, if_neg hq]
      have e2 : opV M ll x = (rdcL (klB M ll x) (pfL M 2 M) (szM M x.length 1000000000000) : Int) := by simp only [opV, if_pos e, Int.toNat_natCast]
      have hC1 := c_spec_l16Cut M ll ll.length x.length h6 h4 (by omega)
      have hP1 := c_spec_l16Primes M (by omega) (by omega)
      have hpn := pf_num M 2 M (Nat.le_refl _)
      have hpl := pf_len M 2 M
      rw [e, e2]
      generalize szM M x.length 1000000000000 = n0 at *
      have hkl : ∀ n : Nat, n ≤ 1000000000000 → AFn Try.prog (2000000 + 103) [.agg [.int .i64 (M : Int), .sl false 26 (rowsF (tab2 (x.length + 1) (pc ll)))], .int .i64 n, .sl false 2 (intL x)] (.tup [.int .i64 (1 : Nat), .sl true 2 (intL (mzL M (pc (tab2 (x.length + 1) (pc ll))) x.length (0 :: x) n))]) := fun n hn => c_spec_l16Multiple M n (tab2 (x.length + 1) (pc ll)) x x.length h1 h2 h8 h3 (by omega) h7 rfl (by omega) (by omega)
      have hzr : ∀ n : Nat, AFn Try.prog 108 [.sl false 2 (intL ((mzL M (pc (tab2 (x.length + 1) (pc ll))) x.length (0 :: x) n).drop 1))] (.bool (klB M ll x n)) := fun n => c_spec_l16Zero _ (by
        have f := (mzL_facts (m := (M : Int)) (by omega) (pc (tab2 (x.length + 1) (pc ll))) x.length (0 :: x) n).1
        rw [List.length_drop]; omega)
      generalize pfL M 2 M = L at *
      have hrf := rdcL_facts (Z := klB M ll x) hsf.1
      (repeat (first | ((with_reducible refine rgn_cons rfl (fun K hK => ?_)); simp only [go_sem, seval, ↓reduceIte, decide_true, decide_false, hc, show ((0 : Int) != 0) = false from rfl, one_row, show ¬ (n0 : Int) > 1000000000000 by omega, decide_false]; (first | refine hK _ _ _ (by simp only [go_sem, Nat.reduceEqDiff, ↓reduceIte]; rfl) ?_ | refine ⟨_, hA, hK _ _ _ (by simp only [go_sem, Nat.reduceEqDiff, ↓reduceIte]; rfl) ?_⟩ | refine ⟨_, hSz, hK _ _ _ (by simp only [go_sem, Nat.reduceEqDiff, ↓reduceIte]; rfl) ?_⟩ | refine ⟨_, hC1, hK _ _ _ (by simp only [go_sem, Nat.reduceEqDiff, ↓reduceIte]; rfl) ?_⟩ | refine ⟨_, hP1, hK _ _ _ (by simp only [go_sem, Nat.reduceEqDiff, ↓reduceIte]; rfl) ?_⟩); clear hK; clear K) | (with_reducible first | refine rgn_nil (by first | trivial | kernel_rfl) ?_ | refine AWP.seq ?_ | refine tX hC hP (by kernel_rfl) ?_ | refine aX hC hM hP (by kernel_rfl) ?_ | refine AWP.skip ?_ | refine AWP.label ?_ | refine AWP.exit ?_ | refine AWP.block ?_ | refine cT (by simp only [go_sem, Nat.reduceEqDiff, ↓reduceIte]; with_reducible rfl) ?_ | refine cF (by simp only [go_sem, Nat.reduceEqDiff, ↓reduceIte]; with_reducible rfl) ?_) | simp only [qS, Nat.reduceEqDiff, ↓reduceIte]))
      refine AWP.loop (fun i : Nat => [(10, ⟨0, .val (.int .i64 i)⟩), (9, ⟨1, .own (.sl true 2 (intL L))⟩), (7, ⟨0, .val (.int .i64 (rdcL (klB M ll x) (L.take i) n0))⟩), (8, ⟨2, .own (.box 31 (.agg [.int .i64 (M : Int), .sl true 26 (rowsO (tab2 (x.length + 1) (pc ll)))]))⟩), (1, ⟨0, .val (.sl false 2 (intL x))⟩)]) (fun i => i ≤ L.length) (fun i => L.length - i) 0 (Nat.zero_le _) (fun i => rfl) ?_ (fun i hi => ?_)
      · simp [Sub, lk, rdcL]
      · by_cases hlt : i < L.length
        · have hq2 : 2 ≤ L.getD i 0 := hpn _ (by rw [List.getD_eq_getElem?_getD, List.getElem?_eq_getElem hlt]; simp)
          have hr := hrf (L.take i)
          have htk := rdcL_take (Z := klB M ll x) (n := n0) hlt
          obtain ⟨Q, hQ⟩ : ∃ Q : Nat, L.getD i 0 = (Q : Int) := ⟨(L.getD i 0).toNat, by omega⟩
          rw [hQ, Int.toNat_natCast] at htk
          have hg := intL_get _ _ hlt
          rw [hQ] at hg hq2
          generalize rdcL (klB M ll x) (L.take i) n0 = r at *
          (repeat (first | ((with_reducible refine rgn_cons rfl (fun K hK => ?_)); simp only [go_sem, seval, ↓reduceIte, decide_true, decide_false, show (i : Int) < (L.length : Int) by omega, decide_true]; (refine hK _ _ _ (by simp only [go_sem, Nat.reduceEqDiff, ↓reduceIte]; rfl) ?_); clear hK; clear K) | (with_reducible first | refine rgn_nil (by first | trivial | kernel_rfl) ?_ | refine AWP.seq ?_ | refine tX hC hP (by kernel_rfl) ?_ | refine aX hC hM hP (by kernel_rfl) ?_ | refine AWP.skip ?_ | refine AWP.label ?_ | refine AWP.exit ?_ | refine AWP.block ?_ | refine cT (by simp only [go_sem, Nat.reduceEqDiff, ↓reduceIte]; with_reducible rfl) ?_ | refine cF (by simp only [go_sem, Nat.reduceEqDiff, ↓reduceIte]; with_reducible rfl) ?_) | simp only [qS, Nat.reduceEqDiff, ↓reduceIte]))
          refine AWP.loop (fun y : Nat => [(7, ⟨0, .val (.int .i64 y)⟩), (10, ⟨0, .val (.int .i64 i)⟩), (9, ⟨1, .own (.sl true 2 (intL L))⟩), (8, ⟨2, .own (.box 31 (.agg [.int .i64 (M : Int), .sl true 26 (rowsO (tab2 (x.length + 1) (pc ll)))]))⟩), (1, ⟨0, .val (.sl false 2 (intL x))⟩)]) (fun y => 0 < y ∧ y ≤ 1000000000000 ∧ rdc (klB M ll x) Q y = rdc (klB M ll x) Q r) (fun y => y) r ⟨by omega, by omega, rfl⟩ (fun i => rfl) ?_ (fun y hy => ?_)
          · simp [Sub, lk]
          · have hQ2 : 2 ≤ Q := by omega
            by_cases hy0 : y % Q = 0
            · have hpos : 0 < y / Q := Nat.div_pos (Nat.le_of_dvd hy.1 (Nat.dvd_of_mod_eq_zero hy0)) (by omega)
              have hlt2 := Nat.div_lt_self hy.1 (show 1 < Q by omega)
              have hwd := wid ((y / Q : Nat) : Int) (by have := Int.natCast_nonneg (y / Q); generalize ((y / Q : Nat) : Int) = X at *; omega) (by have := Int.ofNat_le.2 (Nat.le_of_lt hlt2); generalize ((y / Q : Nat) : Int) = X at *; omega)
              have hk1 := hkl (y / Q) (by omega)
              have hz1 := hzr (y / Q)
              have f := (mzL_facts (m := (M : Int)) (by omega) (pc (tab2 (x.length + 1) (pc ll))) x.length (0 :: x) ((y / Q : Nat) : Int)).1
              generalize mzL (M : Int) (pc (tab2 (x.length + 1) (pc ll))) x.length (0 :: x) ((y / Q : Nat) : Int) = P at *
              cases hb : klB M ll x (y / Q) with
              | true =>
                (repeat (first | ((with_reducible refine rgn_cons rfl (fun K hK => ?_)); simp only [go_sem, seval, ↓reduceIte, decide_true, decide_false, Int.toNat_natCast, Int.natCast_nonneg, show (i : Int) < (L.length : Int) by omega, hg, sizeL_take _ _ (Nat.le_of_lt hlt), Nat.mul_one, show (Q : Int) ≠ 0 by omega, tmodN2, tdivN2, hy0, Int.natCast_zero, show ((0 : Int) == 0) = true from rfl, hwd, intL_freeze, intL_drop, hb]; (first | refine hK _ _ _ (by simp only [go_sem, Nat.reduceEqDiff, ↓reduceIte]; rfl) ?_ | refine ⟨_, hk1, hK _ _ _ (by simp only [go_sem, Nat.reduceEqDiff, ↓reduceIte]; rfl) ?_⟩ | refine ⟨_, hz1, hK _ _ _ (by simp only [go_sem, Nat.reduceEqDiff, ↓reduceIte]; rfl) ?_⟩); clear hK; clear K) | (with_reducible first | refine rgn_nil (by first | trivial | kernel_rfl) ?_ | refine AWP.seq ?_ | refine tX hC hP (by kernel_rfl) ?_ | refine aX hC hM hP (by kernel_rfl) ?_ | refine AWP.skip ?_ | refine AWP.label ?_ | refine AWP.exit ?_ | refine AWP.block ?_ | refine cT (by simp only [go_sem, Nat.reduceEqDiff, ↓reduceIte]; with_reducible rfl) ?_ | refine cF (by simp only [go_sem, Nat.reduceEqDiff, ↓reduceIte]; with_reducible rfl) ?_) | simp only [qS, Nat.reduceEqDiff, ↓reduceIte]))
                exact ⟨y / Q, ⟨hpos, by omega, by rw [← rdc_yes hQ2 hy.1 hy0 hb]; exact hy.2.2⟩, hlt2, by simp [Sub, lk]⟩
              | false =>
                have hE : y = rdc (klB M ll x) Q r := by rw [← hy.2.2, rdc_no (.inr hb)]
                (repeat (first | ((with_reducible refine rgn_cons rfl (fun K hK => ?_)); simp only [go_sem, seval, ↓reduceIte, decide_true, decide_false, Int.toNat_natCast, Int.natCast_nonneg, show (i : Int) < (L.length : Int) by omega, hg, sizeL_take _ _ (Nat.le_of_lt hlt), Nat.mul_one, show (Q : Int) ≠ 0 by omega, tmodN2, tdivN2, hy0, Int.natCast_zero, show ((0 : Int) == 0) = true from rfl, hwd, intL_freeze, intL_drop, hb, wid ((i : Int) + 1) (by omega) (by omega)]; (first | refine hK _ _ _ (by simp only [go_sem, Nat.reduceEqDiff, ↓reduceIte]; rfl) ?_ | refine ⟨_, hk1, hK _ _ _ (by simp only [go_sem, Nat.reduceEqDiff, ↓reduceIte]; rfl) ?_⟩ | refine ⟨_, hz1, hK _ _ _ (by simp only [go_sem, Nat.reduceEqDiff, ↓reduceIte]; rfl) ?_⟩); clear hK; clear K) | (with_reducible first | refine rgn_nil (by first | trivial | kernel_rfl) ?_ | refine AWP.seq ?_ | refine tX hC hP (by kernel_rfl) ?_ | refine aX hC hM hP (by kernel_rfl) ?_ | refine AWP.skip ?_ | refine AWP.label ?_ | refine AWP.exit ?_ | refine AWP.block ?_ | refine cT (by simp only [go_sem, Nat.reduceEqDiff, ↓reduceIte]; with_reducible rfl) ?_ | refine cF (by simp only [go_sem, Nat.reduceEqDiff, ↓reduceIte]; with_reducible rfl) ?_) | simp only [qS, Nat.reduceEqDiff, ↓reduceIte]))
                exact ⟨i + 1, hlt, by omega, by rw [htk, ← hE]; simp [Sub, lk]⟩
            · have hE : y = rdc (klB M ll x) Q r := by rw [← hy.2.2, rdc_no (.inl hy0)]
              (repeat (first | ((with_reducible refine rgn_cons rfl (fun K hK => ?_)); simp only [go_sem, seval, ↓reduceIte, decide_true, decide_false, Int.toNat_natCast, Int.natCast_nonneg, show (i : Int) < (L.length : Int) by omega, hg, sizeL_take _ _ (Nat.le_of_lt hlt), Nat.mul_one, show (Q : Int) ≠ 0 by omega, tmodN2, show (((y % Q : Nat) : Int) == 0) = false by rw [beq_eq_false_iff_ne]; exact fun e => hy0 (Int.ofNat_eq_zero.1 e), wid ((i : Int) + 1) (by omega) (by omega)]; (refine hK _ _ _ (by simp only [go_sem, Nat.reduceEqDiff, ↓reduceIte]; rfl) ?_); clear hK; clear K) | (with_reducible first | refine rgn_nil (by first | trivial | kernel_rfl) ?_ | refine AWP.seq ?_ | refine tX hC hP (by kernel_rfl) ?_ | refine aX hC hM hP (by kernel_rfl) ?_ | refine AWP.skip ?_ | refine AWP.label ?_ | refine AWP.exit ?_ | refine AWP.block ?_ | refine cT (by simp only [go_sem, Nat.reduceEqDiff, ↓reduceIte]; with_reducible rfl) ?_ | refine cF (by simp only [go_sem, Nat.reduceEqDiff, ↓reduceIte]; with_reducible rfl) ?_) | simp only [qS, Nat.reduceEqDiff, ↓reduceIte]))
              exact ⟨i + 1, hlt, by omega, by rw [htk, ← hE]; simp [Sub, lk]⟩
        · (repeat (first | ((with_reducible refine rgn_cons rfl (fun K hK => ?_)); simp only [go_sem, seval, ↓reduceIte, decide_true, decide_false, show ¬ (i : Int) < (L.length : Int) by omega, decide_false]; (refine hK _ _ _ (by simp only [go_sem, Nat.reduceEqDiff, ↓reduceIte]; rfl) ?_); clear hK; clear K) | (with_reducible first | refine rgn_nil (by first | trivial | kernel_rfl) ?_ | refine AWP.seq ?_ | refine tX hC hP (by kernel_rfl) ?_ | refine aX hC hM hP (by kernel_rfl) ?_ | refine AWP.skip ?_ | refine AWP.label ?_ | refine AWP.exit ?_ | refine AWP.block ?_ | refine cT (by simp only [go_sem, Nat.reduceEqDiff, ↓reduceIte]; with_reducible rfl) ?_ | refine cF (by simp only [go_sem, Nat.reduceEqDiff, ↓reduceIte]; with_reducible rfl) ?_) | simp only [qS, Nat.reduceEqDiff, ↓reduceIte]))
          (refine AWP.ret ?_; first | refine retOk1 (by simp only [go_sem, seval, ↓reduceIte, decide_true, decide_false]; rfl) ?_ | refine retOk2 (by simp only [go_sem, seval, ↓reduceIte, decide_true, decide_false]; rfl) (by simp only [go_sem, seval, ↓reduceIte, decide_true, decide_false]; rfl) (by simp) ?_ | refine retOk3 (by simp only [go_sem, seval, ↓reduceIte, decide_true, decide_false]; rfl) (by simp only [go_sem, seval, ↓reduceIte, decide_true, decide_false]; rfl) (by simp only [go_sem, seval, ↓reduceIte, decide_true, decide_false]; rfl) (by simp) ?_)
          rw [List.take_of_length_le (by omega)]
  · have e : opC m ll x = ptC m ll [x] := if_neg hc
    (repeat (first | ((with_reducible refine rgn_cons rfl (fun K hK => ?_)); simp only [go_sem, seval, ↓reduceIte, decide_true, decide_false, show (ptC m ll [x] != 0) = true by rw [bne_iff_ne]; exact hc, one_row]; (first | refine hK _ _ _ (by simp only [go_sem, Nat.reduceEqDiff, ↓reduceIte]; rfl) ?_ | refine ⟨_, hA, hK _ _ _ (by simp only [go_sem, Nat.reduceEqDiff, ↓reduceIte]; rfl) ?_⟩); clear hK; clear K) | (with_reducible first | refine rgn_nil (by first | trivial | kernel_rfl) ?_ | refine AWP.seq ?_ | refine tX hC hP (by kernel_rfl) ?_ | refine aX hC hM hP (by kernel_rfl) ?_ | refine AWP.skip ?_ | refine AWP.label ?_ | refine AWP.exit ?_ | refine AWP.block ?_ | refine cT (by simp only [go_sem, Nat.reduceEqDiff, ↓reduceIte]; with_reducible rfl) ?_ | refine cF (by simp only [go_sem, Nat.reduceEqDiff, ↓reduceIte]; with_reducible rfl) ?_) | simp only [qS, Nat.reduceEqDiff, ↓reduceIte]))
    (refine AWP.ret ?_; first | refine retOk1 (by simp only [go_sem, seval, ↓reduceIte, decide_true, decide_false]; rfl) ?_ | refine retOk2 (by simp only [go_sem, seval, ↓reduceIte, decide_true, decide_false]; rfl) (by simp only [go_sem, seval, ↓reduceIte, decide_true, decide_false]; rfl) (by simp) ?_ | refine retOk3 (by simp only [go_sem, seval, ↓reduceIte, decide_true, decide_false]; rfl) (by simp only [go_sem, seval, ↓reduceIte, decide_true, decide_false]; rfl) (by simp only [go_sem, seval, ↓reduceIte, decide_true, decide_false]; rfl) (by simp) ?_)
    simp [opV, e, hc]
-- Orders of points, in the program.
def eqB (la lb : List Int) : Bool := decide (la = lb)
theorem eq_of_at {la lb : List Int} (h : la.length = lb.length) (h2 : ∀ i, i < la.length → la.getD i 0 = lb.getD i 0) : la = lb := by
  apply List.ext_getElem h
  intro i g1 g2
  have := h2 i g1
  rw [List.getD_eq_getElem?_getD, List.getD_eq_getElem?_getD, List.getElem?_eq_getElem g1, List.getElem?_eq_getElem g2] at this
  exact this
theorem c_slices_Equal_int64_int64 (la lb : List Int) (h : la.length = lb.length) (hl : la.length ≤ 1000000000) : AFn Try.prog 190 [.sl false 2 (intL la), .sl false 2 (intL lb)] (.bool (eqB la lb)) := by
  refine AFn.of' ttOk (by decide) Try.func190 Try.ntmps190 (by rw [Try.results190]) (by rfl) (by rfl) (by simp) (by decide) (by simp only [go_sem, Nat.reduceAdd, ↓reduceIte]; rfl) mixed (fun C hP hM hC => ?_)
  (repeat (first | ((with_reducible refine rgn_cons rfl (fun K hK => ?_)); simp only [go_sem, seval, ↓reduceIte, decide_true, decide_false, show ((la.length : Int) != (lb.length : Int)) = false by rw [h]; simp]; (refine hK _ _ _ (by simp only [go_sem, Nat.reduceEqDiff, ↓reduceIte]; rfl) ?_); clear hK; clear K) | (with_reducible first | refine rgn_nil (by first | trivial | kernel_rfl) ?_ | refine AWP.seq ?_ | refine tX hC hP (by kernel_rfl) ?_ | refine aX hC hM hP (by kernel_rfl) ?_ | refine AWP.skip ?_ | refine AWP.label ?_ | refine AWP.exit ?_ | refine AWP.block ?_ | refine cT (by simp only [go_sem, Nat.reduceEqDiff, ↓reduceIte]; with_reducible rfl) ?_ | refine cF (by simp only [go_sem, Nat.reduceEqDiff, ↓reduceIte]; with_reducible rfl) ?_) | simp only [qS, Nat.reduceEqDiff, ↓reduceIte]))
  refine AWP.loop (fun i : Nat => [(13, ⟨0, .val (.int .i64 i)⟩), (12, ⟨0, .val (.int .i64 la.length)⟩), (0, ⟨0, .val (.sl false 2 (intL la))⟩), (1, ⟨0, .val (.sl false 2 (intL lb))⟩)]) (fun i => i ≤ la.length ∧ ∀ j, j < i → la.getD j 0 = lb.getD j 0) (fun i => la.length - i) 0 ⟨Nat.zero_le _, fun j hj => by omega⟩ (fun i => rfl) ?_ (fun i hi => ?_)
  · simp [Sub, lk]
  · by_cases hlt : i < la.length
    · by_cases hx : la.getD i 0 = lb.getD i 0
      · (repeat (first | ((with_reducible refine rgn_cons rfl (fun K hK => ?_)); simp only [go_sem, seval, ↓reduceIte, decide_true, decide_false, show (i : Int) < (la.length : Int) by omega, show (i : Int) < (lb.length : Int) by omega, decide_true, intL_getD la i hlt, intL_getD lb i (by omega), Int.toNat_natCast, Int.natCast_nonneg, show (la.getD i 0 != lb.getD i 0) = false by rw [hx]; simp, wid ((i : Int) + 1) (by omega) (by omega)]; (refine hK _ _ _ (by simp only [go_sem, Nat.reduceEqDiff, ↓reduceIte]; rfl) ?_); clear hK; clear K) | (with_reducible first | refine rgn_nil (by first | trivial | kernel_rfl) ?_ | refine AWP.seq ?_ | refine tX hC hP (by kernel_rfl) ?_ | refine aX hC hM hP (by kernel_rfl) ?_ | refine AWP.skip ?_ | refine AWP.label ?_ | refine AWP.exit ?_ | refine AWP.block ?_ | refine cT (by simp only [go_sem, Nat.reduceEqDiff, ↓reduceIte]; with_reducible rfl) ?_ | refine cF (by simp only [go_sem, Nat.reduceEqDiff, ↓reduceIte]; with_reducible rfl) ?_) | simp only [qS, Nat.reduceEqDiff, ↓reduceIte]))
        refine ⟨i + 1, ⟨hlt, fun j hj => ?_⟩, by omega, by simp [Sub, lk]⟩
        by_cases e : j = i
        · rw [e]; exact hx
        · exact hi.2 j (by omega)
      · (repeat (first | ((with_reducible refine rgn_cons rfl (fun K hK => ?_)); simp only [go_sem, seval, ↓reduceIte, decide_true, decide_false, show (i : Int) < (la.length : Int) by omega, show (i : Int) < (lb.length : Int) by omega, decide_true, intL_getD la i hlt, intL_getD lb i (by omega), Int.toNat_natCast, Int.natCast_nonneg, show (la.getD i 0 != lb.getD i 0) = true by rw [bne_iff_ne]; exact hx]; (refine hK _ _ _ (by simp only [go_sem, Nat.reduceEqDiff, ↓reduceIte]; rfl) ?_); clear hK; clear K) | (with_reducible first | refine rgn_nil (by first | trivial | kernel_rfl) ?_ | refine AWP.seq ?_ | refine tX hC hP (by kernel_rfl) ?_ | refine aX hC hM hP (by kernel_rfl) ?_ | refine AWP.skip ?_ | refine AWP.label ?_ | refine AWP.exit ?_ | refine AWP.block ?_ | refine cT (by simp only [go_sem, Nat.reduceEqDiff, ↓reduceIte]; with_reducible rfl) ?_ | refine cF (by simp only [go_sem, Nat.reduceEqDiff, ↓reduceIte]; with_reducible rfl) ?_) | simp only [qS, Nat.reduceEqDiff, ↓reduceIte]))
        (refine AWP.ret ?_; first | refine retOk1 (by simp only [go_sem, seval, ↓reduceIte, decide_true, decide_false]; rfl) ?_ | refine retOk2 (by simp only [go_sem, seval, ↓reduceIte, decide_true, decide_false]; rfl) (by simp only [go_sem, seval, ↓reduceIte, decide_true, decide_false]; rfl) (by simp) ?_ | refine retOk3 (by simp only [go_sem, seval, ↓reduceIte, decide_true, decide_false]; rfl) (by simp only [go_sem, seval, ↓reduceIte, decide_true, decide_false]; rfl) (by simp only [go_sem, seval, ↓reduceIte, decide_true, decide_false]; rfl) (by simp) ?_)
        rw [eqB, decide_eq_false (fun e => hx (by rw [e]))]
    · (repeat (first | ((with_reducible refine rgn_cons rfl (fun K hK => ?_)); simp only [go_sem, seval, ↓reduceIte, decide_true, decide_false, show ¬ (i : Int) < (la.length : Int) by omega, decide_false]; (refine hK _ _ _ (by simp only [go_sem, Nat.reduceEqDiff, ↓reduceIte]; rfl) ?_); clear hK; clear K) | (with_reducible first | refine rgn_nil (by first | trivial | kernel_rfl) ?_ | refine AWP.seq ?_ | refine tX hC hP (by kernel_rfl) ?_ | refine aX hC hM hP (by kernel_rfl) ?_ | refine AWP.skip ?_ | refine AWP.label ?_ | refine AWP.exit ?_ | refine AWP.block ?_ | refine cT (by simp only [go_sem, Nat.reduceEqDiff, ↓reduceIte]; with_reducible rfl) ?_ | refine cF (by simp only [go_sem, Nat.reduceEqDiff, ↓reduceIte]; with_reducible rfl) ?_) | simp only [qS, Nat.reduceEqDiff, ↓reduceIte]))
      (refine AWP.ret ?_; first | refine retOk1 (by simp only [go_sem, seval, ↓reduceIte, decide_true, decide_false]; rfl) ?_ | refine retOk2 (by simp only [go_sem, seval, ↓reduceIte, decide_true, decide_false]; rfl) (by simp only [go_sem, seval, ↓reduceIte, decide_true, decide_false]; rfl) (by simp) ?_ | refine retOk3 (by simp only [go_sem, seval, ↓reduceIte, decide_true, decide_false]; rfl) (by simp only [go_sem, seval, ↓reduceIte, decide_true, decide_false]; rfl) (by simp only [go_sem, seval, ↓reduceIte, decide_true, decide_false]; rfl) (by simp) ?_)
      rw [eqB, decide_eq_true (eq_of_at h (fun j hj => hi.2 j (by omega)))]
theorem c_impl_Series_same (m : Int) (la lb : List Int) (h : la.length = lb.length) (hl : la.length ≤ 1000000000) : AFn Try.prog 156 [.agg [.int .i64 m, .sl false 2 (intL la)], .agg [.int .i64 m, .sl false 2 (intL lb)]] (.bool (eqB la lb)) := by
  refine AFn.of' ttOk (by decide) Try.func156 Try.ntmps156 (by rw [Try.results156]) (by rfl) (by rfl) (by simp) (by decide) (by simp only [go_sem, Nat.reduceAdd, ↓reduceIte]; rfl) mixed (fun C hP hM hC => ?_)
  (repeat (first | ((with_reducible refine rgn_cons rfl (fun K hK => ?_)); simp only [go_sem, seval, ↓reduceIte, decide_true, decide_false, show (m == m) = true by simp]; (first | refine hK _ _ _ (by simp only [go_sem, Nat.reduceEqDiff, ↓reduceIte]; rfl) ?_ | refine ⟨_, c_slices_Equal_int64_int64 la lb h hl, hK _ _ _ (by simp only [go_sem, Nat.reduceEqDiff, ↓reduceIte]; rfl) ?_⟩); clear hK; clear K) | (with_reducible first | refine rgn_nil (by first | trivial | kernel_rfl) ?_ | refine AWP.seq ?_ | refine tX hC hP (by kernel_rfl) ?_ | refine aX hC hM hP (by kernel_rfl) ?_ | refine AWP.skip ?_ | refine AWP.label ?_ | refine AWP.exit ?_ | refine AWP.block ?_ | refine cT (by simp only [go_sem, Nat.reduceEqDiff, ↓reduceIte]; with_reducible rfl) ?_ | refine cF (by simp only [go_sem, Nat.reduceEqDiff, ↓reduceIte]; with_reducible rfl) ?_) | simp only [qS, Nat.reduceEqDiff, ↓reduceIte]))
  (refine AWP.ret ?_; first | refine retOk1 (by simp only [go_sem, seval, ↓reduceIte, decide_true, decide_false]; rfl) ?_ | refine retOk2 (by simp only [go_sem, seval, ↓reduceIte, decide_true, decide_false]; rfl) (by simp only [go_sem, seval, ↓reduceIte, decide_true, decide_false]; rfl) (by simp) ?_ | refine retOk3 (by simp only [go_sem, seval, ↓reduceIte, decide_true, decide_false]; rfl) (by simp only [go_sem, seval, ↓reduceIte, decide_true, decide_false]; rfl) (by simp only [go_sem, seval, ↓reduceIte, decide_true, decide_false]; rfl) (by simp) ?_)
  rfl
theorem eqB_zr {l : List Int} {d : Nat} (h : l.length = d + 1) : eqB l (tab (d + 1) (fun _ => 0)) = zrB l := by
  by_cases e : l = tab (d + 1) (fun _ => 0)
  · rw [eqB, decide_eq_true e, e]
    symm
    rw [zrB, tab_all]
    intro i _; rfl
  · rw [eqB, decide_eq_false e]
    symm
    cases hz : zrB l with
    | false => rfl
    | true =>
      exfalso
      apply e
      refine eq_of_at (by rw [h, tab_length]) (fun i hi => ?_)
      rw [tab_getD (by omega)]
      have := List.all_eq_true.1 hz (l.getD i 0) (by rw [List.getD_eq_getElem?_getD, List.getElem?_eq_getElem hi]; simp)
      simpa using this
theorem c_impl_Plane_kills (M n : Nat) (ll : List (List Int)) (x : List Int) (h : ptC M ll [x] = 0) (hn : n ≤ 1000000000000) : AFn Try.prog 111 [.agg [.int .i64 (M : Int), .sl false 26 (rowsF (tab2 (x.length + 1) (pc ll)))], .int .i64 n, .agg [.int .i64 (M : Int), .sl false 2 (intL (0 :: x))]] (.bool (klB M ll x n)) := by
  refine AFn.of' ttOk (by decide) Try.func111 Try.ntmps111 (by rw [Try.results111]) (by rfl) (by rfl) (by simp) (by decide) (by simp only [go_sem, Nat.reduceAdd, ↓reduceIte]; rfl) mixed (fun C hP hM hC => ?_)
  obtain ⟨h1, h2, h3, h4, h5, h6, h7, h8⟩ := pt_one h
  have hka := kl_all (n := n) h
  have ha0 : ∀ y ∈ (0 :: x), 0 ≤ y ∧ y < (M : Int) := fun y hy => by
    rcases List.mem_cons.1 hy with e | e
    · omega
    · exact h7 y e
  have hD := c_impl_Plane_degree (M : Int) (tab2 (x.length + 1) (pc ll)) (by rw [tab2_length]; omega)
  rw [tab2_length, show ((x.length + 1 : Nat) : Int) - 1 = (x.length : Int) by omega] at hD
  have hM1 := c_impl_Plane_multiple (M : Int) n (tab2 (x.length + 1) (pc ll)) (0 :: x) x.length h1 h2 h8 h3 (by omega) ha0 (by simp) (by omega) (by omega)
  have f := mzL_facts (m := (M : Int)) (by omega) (pc (tab2 (x.length + 1) (pc ll))) x.length (0 :: x) n
  generalize mzL (M : Int) (pc (tab2 (x.length + 1) (pc ll))) x.length (0 :: x) n = P at *
  have hS := c_impl_Series_same (M : Int) P (tab (x.length + 1) (fun _ => 0)) (by rw [f.1, tab_length]) (by omega)
  rw [eqB_zr f.1, hka] at hS
  (repeat (first | ((with_reducible refine rgn_cons rfl (fun K hK => ?_)); simp only [go_sem, seval, ↓reduceIte, decide_true, decide_false]; (first | refine hK _ _ _ (by simp only [go_sem, Nat.reduceEqDiff, ↓reduceIte]; rfl) ?_ | refine ⟨_, hD, hK _ _ _ (by simp only [go_sem, Nat.reduceEqDiff, ↓reduceIte]; rfl) ?_⟩ | refine ⟨_, hM1, hK _ _ _ (by simp only [go_sem, Nat.reduceEqDiff, ↓reduceIte]; rfl) ?_⟩ | refine ⟨_, c_impl_zero (M : Int) (x.length : Int) (x.length + 1) (by omega) (by omega), hK _ _ _ (by simp only [go_sem, Nat.reduceEqDiff, ↓reduceIte]; rfl) ?_⟩ | refine ⟨_, hS, hK _ _ _ (by simp only [go_sem, Nat.reduceEqDiff, ↓reduceIte]; rfl) ?_⟩); clear hK; clear K) | (with_reducible first | refine rgn_nil (by first | trivial | kernel_rfl) ?_ | refine AWP.seq ?_ | refine tX hC hP (by kernel_rfl) ?_ | refine aX hC hM hP (by kernel_rfl) ?_ | refine AWP.skip ?_ | refine AWP.label ?_ | refine AWP.exit ?_ | refine AWP.block ?_ | refine cT (by simp only [go_sem, Nat.reduceEqDiff, ↓reduceIte]; with_reducible rfl) ?_ | refine cF (by simp only [go_sem, Nat.reduceEqDiff, ↓reduceIte]; with_reducible rfl) ?_) | simp only [qS, Nat.reduceEqDiff, ↓reduceIte]))
  (refine AWP.ret ?_; first | refine retOk1 (by simp only [go_sem, seval, ↓reduceIte, decide_true, decide_false]; rfl) ?_ | refine retOk2 (by simp only [go_sem, seval, ↓reduceIte, decide_true, decide_false]; rfl) (by simp only [go_sem, seval, ↓reduceIte, decide_true, decide_false]; rfl) (by simp) ?_ | refine retOk3 (by simp only [go_sem, seval, ↓reduceIte, decide_true, decide_false]; rfl) (by simp only [go_sem, seval, ↓reduceIte, decide_true, decide_false]; rfl) (by simp only [go_sem, seval, ↓reduceIte, decide_true, decide_false]; rfl) (by simp) ?_)
  rfl
set_option maxHeartbeats 4000000 in
theorem c_impl_OrderOfPointUnder (m : Int) (ll : List (List Int)) (x : List Int) (hs : Sm ll) (hx : x.length ≤ 1000000000) : AFn Try.prog 57 [.agg [.int .i64 m, .sl false 26 (rowsF ll)], .sl false 2 (intL x)] (.tup [.int .i64 (opV m ll x), .int .i64 (opC m ll x)]) := by
  refine AFn.of' ttOk (by decide) Try.func57 Try.ntmps57 (by rw [Try.results57]) (by rfl) (by rfl) (by simp) (by decide) (by simp only [go_sem, Nat.reduceAdd, ↓reduceIte]; rfl) mixed (fun C hP hM hC => ?_)
  have hA := c_impl_pointed m ll [x] hs (by simp) (by simp) (fun i => Nat.le_trans (getD_one x i) hx)
  rw [List.getD_cons_zero] at hA
  by_cases hc : ptC m ll [x] = 0
  · obtain ⟨h1, h2, h3, h4, h5, h6, h7, h8⟩ := pt_one hc
    obtain ⟨M, rfl⟩ : ∃ M : Nat, m = (M : Int) := ⟨m.toNat, by omega⟩
    have hSz := c_impl_countAtMost M x.length 1000000000000 (by omega) (by omega) (by omega) (by omega) (by omega)
    have hsf := szM_facts (m := M) (k := x.length) (by omega)
    by_cases hq : szM M x.length 1000000000000 = 1000000000001
    · have e : opC M ll x = 3 := by simp only [opC, if_pos hc, Int.toNat_natCast, if_pos hq]
      rw [hq] at hSz
      (repeat (first | ((with_reducible refine rgn_cons rfl (fun K hK => ?_)); simp only [go_sem, seval, ↓reduceIte, decide_true, decide_false, hc, show ((0 : Int) != 0) = false from rfl, one_row, show ((1000000000001 : Nat) : Int) > 1000000000000 by decide]; (first | refine hK _ _ _ (by simp only [go_sem, Nat.reduceEqDiff, ↓reduceIte]; rfl) ?_ | refine ⟨_, hA, hK _ _ _ (by simp only [go_sem, Nat.reduceEqDiff, ↓reduceIte]; rfl) ?_⟩ | refine ⟨_, hSz, hK _ _ _ (by simp only [go_sem, Nat.reduceEqDiff, ↓reduceIte]; rfl) ?_⟩); clear hK; clear K) | (with_reducible first | refine rgn_nil (by first | trivial | kernel_rfl) ?_ | refine AWP.seq ?_ | refine tX hC hP (by kernel_rfl) ?_ | refine aX hC hM hP (by kernel_rfl) ?_ | refine AWP.skip ?_ | refine AWP.label ?_ | refine AWP.exit ?_ | refine AWP.block ?_ | refine cT (by simp only [go_sem, Nat.reduceEqDiff, ↓reduceIte]; with_reducible rfl) ?_ | refine cF (by simp only [go_sem, Nat.reduceEqDiff, ↓reduceIte]; with_reducible rfl) ?_) | simp only [qS, Nat.reduceEqDiff, ↓reduceIte]))
      (refine AWP.ret ?_; first | refine retOk1 (by simp only [go_sem, seval, ↓reduceIte, decide_true, decide_false]; rfl) ?_ | refine retOk2 (by simp only [go_sem, seval, ↓reduceIte, decide_true, decide_false]; rfl) (by simp only [go_sem, seval, ↓reduceIte, decide_true, decide_false]; rfl) (by simp) ?_ | refine retOk3 (by simp only [go_sem, seval, ↓reduceIte, decide_true, decide_false]; rfl) (by simp only [go_sem, seval, ↓reduceIte, decide_true, decide_false]; rfl) (by simp only [go_sem, seval, ↓reduceIte, decide_true, decide_false]; rfl) (by simp) ?_)
      simp [opV, e]
    · have e : opC M ll x = 0 := by simp only [opC, if_pos hc, Int.toNat_natCast, if_neg hq]
      have e2 : opV M ll x = (rdcL (klB M ll x) (pfL M 2 M) (szM M x.length 1000000000000) : Int) := by simp only [opV, if_pos e, Int.toNat_natCast]
      have hC1 := c_impl_Plane_cut M ll ll.length x.length h6 h4 (by omega)
      have hU := c_impl_curveOf M x hx
      have hP1 := c_impl_factors M (by omega) (by omega)
      have hfh := fc_heads M 2 M (fun p h1 h2 => by omega) (Nat.le_refl _) (by omega) (by omega)
      have hfr := fc_rows M 2 M
      have hpn := pf_num M 2 M (Nat.le_refl _)
      have hpl := pf_len M 2 M
      rw [e, e2, ← hfh]
      rw [← hfh] at hpn hpl
      generalize szM M x.length 1000000000000 = n0 at *
      have hkl : ∀ n : Nat, n ≤ 1000000000000 → AFn Try.prog 111 [.agg [.int .i64 (M : Int), .sl false 26 (rowsF (tab2 (x.length + 1) (pc ll)))], .int .i64 n, .agg [.int .i64 (M : Int), .sl false 2 (intL (0 :: x))]] (.bool (klB M ll x n)) := fun n hn => c_impl_Plane_kills M n ll x hc hn
      generalize fcL M 2 M = L at *
      have hLl : (L.map (fun r => r.getD 0 0)).length = L.length := List.length_map _
      have hrf := rdcL_facts (Z := klB M ll x) hsf.1
      (repeat (first | ((with_reducible refine rgn_cons rfl (fun K hK => ?_)); simp only [go_sem, seval, ↓reduceIte, decide_true, decide_false, hc, show ((0 : Int) != 0) = false from rfl, one_row, show ¬ (n0 : Int) > 1000000000000 by omega, decide_false, rowsO_length]; (first | refine hK _ _ _ (by simp only [go_sem, Nat.reduceEqDiff, ↓reduceIte]; rfl) ?_ | refine ⟨_, hA, hK _ _ _ (by simp only [go_sem, Nat.reduceEqDiff, ↓reduceIte]; rfl) ?_⟩ | refine ⟨_, hSz, hK _ _ _ (by simp only [go_sem, Nat.reduceEqDiff, ↓reduceIte]; rfl) ?_⟩ | refine ⟨_, hC1, hK _ _ _ (by simp only [go_sem, Nat.reduceEqDiff, ↓reduceIte]; rfl) ?_⟩ | refine ⟨_, hU, hK _ _ _ (by simp only [go_sem, Nat.reduceEqDiff, ↓reduceIte]; rfl) ?_⟩ | refine ⟨_, hP1, hK _ _ _ (by simp only [go_sem, Nat.reduceEqDiff, ↓reduceIte]; rfl) ?_⟩); clear hK; clear K) | (with_reducible first | refine rgn_nil (by first | trivial | kernel_rfl) ?_ | refine AWP.seq ?_ | refine tX hC hP (by kernel_rfl) ?_ | refine aX hC hM hP (by kernel_rfl) ?_ | refine AWP.skip ?_ | refine AWP.label ?_ | refine AWP.exit ?_ | refine AWP.block ?_ | refine cT (by simp only [go_sem, Nat.reduceEqDiff, ↓reduceIte]; with_reducible rfl) ?_ | refine cF (by simp only [go_sem, Nat.reduceEqDiff, ↓reduceIte]; with_reducible rfl) ?_) | simp only [qS, Nat.reduceEqDiff, ↓reduceIte]))
      refine AWP.loop (fun i : Nat => [(40, ⟨0, .val (.int .i64 i)⟩), (39, ⟨0, .val (.int .i64 L.length)⟩), (38, ⟨1, .own (.sl true 26 (rowsO L))⟩), (7, ⟨0, .val (.int .i64 (rdcL (klB M ll x) ((L.map (fun r => r.getD 0 0)).take i) n0))⟩), (8, ⟨2, .own (.box 31 (.agg [.int .i64 (M : Int), .sl true 26 (rowsO (tab2 (x.length + 1) (pc ll)))]))⟩), (9, ⟨2, .own (.box 28 (.agg [.int .i64 (M : Int), .sl true 2 (intL (0 :: x))]))⟩)]) (fun i => i ≤ L.length) (fun i => L.length - i) 0 (Nat.zero_le _) (fun i => rfl) ?_ (fun i hi => ?_)
      · simp [Sub, lk, rdcL]
      · by_cases hlt : i < L.length
        · have hrow : L.getD i [] = L[i] := by rw [List.getD_eq_getElem?_getD, List.getElem?_eq_getElem hlt]; rfl
          have hr2 : (L.getD i []).length = 2 := hfr _ (by rw [hrow]; simp)
          have hg0 : (L.map (fun r => r.getD 0 0)).getD i 0 = (L.getD i []).getD 0 0 := by
            rw [List.getD_eq_getElem?_getD, List.getElem?_map, List.getElem?_eq_getElem hlt, hrow]; rfl
          have hq2 : 2 ≤ (L.getD i []).getD 0 0 := by
            rw [← hg0]
            exact hpn _ (by rw [List.getD_eq_getElem?_getD, List.getElem?_eq_getElem (by omega), Option.getD_some]; exact List.getElem_mem _)
          have hr := hrf ((L.map (fun r => r.getD 0 0)).take i)
          have htk := rdcL_take (Z := klB M ll x) (n := n0) (l := L.map (fun r => r.getD 0 0)) (i := i) (by omega)
          rw [hg0] at htk
          obtain ⟨Q, hQ⟩ : ∃ Q : Nat, (L.getD i []).getD 0 0 = (Q : Int) := ⟨((L.getD i []).getD 0 0).toNat, by omega⟩
          rw [hQ, Int.toNat_natCast] at htk
          have hg := intL_get (L.getD i []) 0 (by omega)
          rw [hQ] at hg hq2
          generalize rdcL (klB M ll x) ((L.map (fun r => r.getD 0 0)).take i) n0 = r at *
          (repeat (first | ((with_reducible refine rgn_cons rfl (fun K hK => ?_)); simp only [go_sem, seval, ↓reduceIte, decide_true, decide_false, show (i : Int) < (L.length : Int) by omega, decide_true, Int.toNat_natCast, Int.natCast_nonneg, rowsO_length, rowsO_at L i hlt, rowsO_sizeT L i (Nat.le_of_lt hlt), Nat.mul_one]; (refine hK _ _ _ (by simp only [go_sem, Nat.reduceEqDiff, ↓reduceIte]; rfl) ?_); clear hK; clear K) | (with_reducible first | refine rgn_nil (by first | trivial | kernel_rfl) ?_ | refine AWP.seq ?_ | refine tX hC hP (by kernel_rfl) ?_ | refine aX hC hM hP (by kernel_rfl) ?_ | refine AWP.skip ?_ | refine AWP.label ?_ | refine AWP.exit ?_ | refine AWP.block ?_ | refine cT (by simp only [go_sem, Nat.reduceEqDiff, ↓reduceIte]; with_reducible rfl) ?_ | refine cF (by simp only [go_sem, Nat.reduceEqDiff, ↓reduceIte]; with_reducible rfl) ?_) | simp only [qS, Nat.reduceEqDiff, ↓reduceIte]))
          refine AWP.loop (fun y : Nat => [(7, ⟨0, .val (.int .i64 y)⟩), (11, ⟨0, .val (.ref 38 1 [i])⟩), (40, ⟨0, .val (.int .i64 i)⟩), (39, ⟨0, .val (.int .i64 L.length)⟩), (38, ⟨1, .own (.sl true 26 (rowsO L))⟩), (8, ⟨2, .own (.box 31 (.agg [.int .i64 (M : Int), .sl true 26 (rowsO (tab2 (x.length + 1) (pc ll)))]))⟩), (9, ⟨2, .own (.box 28 (.agg [.int .i64 (M : Int), .sl true 2 (intL (0 :: x))]))⟩)]) (fun y => 0 < y ∧ y ≤ 1000000000000 ∧ rdc (klB M ll x) Q y = rdc (klB M ll x) Q r) (fun y => y) r ⟨by omega, by omega, rfl⟩ (fun i => rfl) ?_ (fun y hy => ?_)
          · simp [Sub, lk]
          · have hQ2 : 2 ≤ Q := by omega
            by_cases hy0 : y % Q = 0
            · have hpos : 0 < y / Q := Nat.div_pos (Nat.le_of_dvd hy.1 (Nat.dvd_of_mod_eq_zero hy0)) (by omega)
              have hlt2 := Nat.div_lt_self hy.1 (show 1 < Q by omega)
              have hwd := wid ((y / Q : Nat) : Int) (by have := Int.natCast_nonneg (y / Q); generalize ((y / Q : Nat) : Int) = X at *; omega) (by have := Int.ofNat_le.2 (Nat.le_of_lt hlt2); generalize ((y / Q : Nat) : Int) = X at *; omega)
              have hk1 := hkl (y / Q) (by omega)
              cases hb : klB M ll x (y / Q) with
              | true =>
                (repeat (first | ((with_reducible refine rgn_cons rfl (fun K hK => ?_)); simp only [go_sem, seval, ↓reduceIte, decide_true, decide_false, Int.toNat_natCast, Int.natCast_nonneg, Int.le_refl, Int.toNat_zero, show (0 : Int) < 2 by decide, rowsO_at L i hlt, hr2, hg, List.take_zero, Nat.mul_one, show (Q : Int) ≠ 0 by omega, tmodN2, tdivN2, hy0, Int.natCast_zero, show ((0 : Int) == 0) = true from rfl, hwd, hb]; (first | refine hK _ _ _ (by simp only [go_sem, Nat.reduceEqDiff, ↓reduceIte]; rfl) ?_ | refine ⟨_, hk1, hK _ _ _ (by simp only [go_sem, Nat.reduceEqDiff, ↓reduceIte]; rfl) ?_⟩); clear hK; clear K) | (with_reducible first | refine rgn_nil (by first | trivial | kernel_rfl) ?_ | refine AWP.seq ?_ | refine tX hC hP (by kernel_rfl) ?_ | refine aX hC hM hP (by kernel_rfl) ?_ | refine AWP.skip ?_ | refine AWP.label ?_ | refine AWP.exit ?_ | refine AWP.block ?_ | refine cT (by simp only [go_sem, Nat.reduceEqDiff, ↓reduceIte]; with_reducible rfl) ?_ | refine cF (by simp only [go_sem, Nat.reduceEqDiff, ↓reduceIte]; with_reducible rfl) ?_) | simp only [qS, Nat.reduceEqDiff, ↓reduceIte]))
                exact ⟨y / Q, ⟨hpos, by omega, by rw [← rdc_yes hQ2 hy.1 hy0 hb]; exact hy.2.2⟩, hlt2, by simp [Sub, lk]⟩
              | false =>
                have hE : y = rdc (klB M ll x) Q r := by rw [← hy.2.2, rdc_no (.inr hb)]
                (repeat (first | ((with_reducible refine rgn_cons rfl (fun K hK => ?_)); simp only [go_sem, seval, ↓reduceIte, decide_true, decide_false, Int.toNat_natCast, Int.natCast_nonneg, Int.le_refl, Int.toNat_zero, show (0 : Int) < 2 by decide, rowsO_at L i hlt, hr2, hg, List.take_zero, Nat.mul_one, show (Q : Int) ≠ 0 by omega, tmodN2, tdivN2, hy0, Int.natCast_zero, show ((0 : Int) == 0) = true from rfl, hwd, hb, wid ((i : Int) + 1) (by omega) (by omega)]; (first | refine hK _ _ _ (by simp only [go_sem, Nat.reduceEqDiff, ↓reduceIte]; rfl) ?_ | refine ⟨_, hk1, hK _ _ _ (by simp only [go_sem, Nat.reduceEqDiff, ↓reduceIte]; rfl) ?_⟩); clear hK; clear K) | (with_reducible first | refine rgn_nil (by first | trivial | kernel_rfl) ?_ | refine AWP.seq ?_ | refine tX hC hP (by kernel_rfl) ?_ | refine aX hC hM hP (by kernel_rfl) ?_ | refine AWP.skip ?_ | refine AWP.label ?_ | refine AWP.exit ?_ | refine AWP.block ?_ | refine cT (by simp only [go_sem, Nat.reduceEqDiff, ↓reduceIte]; with_reducible rfl) ?_ | refine cF (by simp only [go_sem, Nat.reduceEqDiff, ↓reduceIte]; with_reducible rfl) ?_) | simp only [qS, Nat.reduceEqDiff, ↓reduceIte]))
                exact ⟨i + 1, hlt, by omega, by rw [htk, ← hE]; simp [Sub, lk]⟩
            · have hE : y = rdc (klB M ll x) Q r := by rw [← hy.2.2, rdc_no (.inl hy0)]
              (repeat (first | ((with_reducible refine rgn_cons rfl (fun K hK => ?_)); simp only [go_sem, seval, ↓reduceIte, decide_true, decide_false, Int.toNat_natCast, Int.natCast_nonneg, Int.le_refl, Int.toNat_zero, show (0 : Int) < 2 by decide, rowsO_at L i hlt, hr2, hg, List.take_zero, Nat.mul_one, show (Q : Int) ≠ 0 by omega, tmodN2, show (((y % Q : Nat) : Int) == 0) = false by rw [beq_eq_false_iff_ne]; exact fun e => hy0 (Int.ofNat_eq_zero.1 e), wid ((i : Int) + 1) (by omega) (by omega)]; (refine hK _ _ _ (by simp only [go_sem, Nat.reduceEqDiff, ↓reduceIte]; rfl) ?_); clear hK; clear K) | (with_reducible first | refine rgn_nil (by first | trivial | kernel_rfl) ?_ | refine AWP.seq ?_ | refine tX hC hP (by kernel_rfl) ?_ | refine aX hC hM hP (by kernel_rfl) ?_ | refine AWP.skip ?_ | refine AWP.label ?_ | refine AWP.exit ?_ | refine AWP.block ?_ | refine cT (by simp only [go_sem, Nat.reduceEqDiff, ↓reduceIte]; with_reducible rfl) ?_ | refine cF (by simp only [go_sem, Nat.reduceEqDiff, ↓reduceIte]; with_reducible rfl) ?_) | simp only [qS, Nat.reduceEqDiff, ↓reduceIte]))
              exact ⟨i + 1, hlt, by omega, by rw [htk, ← hE]; simp [Sub, lk]⟩
        · (repeat (first | ((with_reducible refine rgn_cons rfl (fun K hK => ?_)); simp only [go_sem, seval, ↓reduceIte, decide_true, decide_false, show ¬ (i : Int) < (L.length : Int) by omega, decide_false]; (refine hK _ _ _ (by simp only [go_sem, Nat.reduceEqDiff, ↓reduceIte]; rfl) ?_); clear hK; clear K) | (with_reducible first | refine rgn_nil (by first | trivial | kernel_rfl) ?_ | refine AWP.seq ?_ | refine tX hC hP (by kernel_rfl) ?_ | refine aX hC hM hP (by kernel_rfl) ?_ | refine AWP.skip ?_ | refine AWP.label ?_ | refine AWP.exit ?_ | refine AWP.block ?_ | refine cT (by simp only [go_sem, Nat.reduceEqDiff, ↓reduceIte]; with_reducible rfl) ?_ | refine cF (by simp only [go_sem, Nat.reduceEqDiff, ↓reduceIte]; with_reducible rfl) ?_) | simp only [qS, Nat.reduceEqDiff, ↓reduceIte]))
          (refine AWP.ret ?_; first | refine retOk1 (by simp only [go_sem, seval, ↓reduceIte, decide_true, decide_false]; rfl) ?_ | refine retOk2 (by simp only [go_sem, seval, ↓reduceIte, decide_true, decide_false]; rfl) (by simp only [go_sem, seval, ↓reduceIte, decide_true, decide_false]; rfl) (by simp) ?_ | refine retOk3 (by simp only [go_sem, seval, ↓reduceIte, decide_true, decide_false]; rfl) (by simp only [go_sem, seval, ↓reduceIte, decide_true, decide_false]; rfl) (by simp only [go_sem, seval, ↓reduceIte, decide_true, decide_false]; rfl) (by simp) ?_)
          rw [List.take_of_length_le (by omega)]
  · have e : opC m ll x = ptC m ll [x] := if_neg hc
    (repeat (first | ((with_reducible refine rgn_cons rfl (fun K hK => ?_)); simp only [go_sem, seval, ↓reduceIte, decide_true, decide_false, show (ptC m ll [x] != 0) = true by rw [bne_iff_ne]; exact hc, one_row]; (first | refine hK _ _ _ (by simp only [go_sem, Nat.reduceEqDiff, ↓reduceIte]; rfl) ?_ | refine ⟨_, hA, hK _ _ _ (by simp only [go_sem, Nat.reduceEqDiff, ↓reduceIte]; rfl) ?_⟩); clear hK; clear K) | (with_reducible first | refine rgn_nil (by first | trivial | kernel_rfl) ?_ | refine AWP.seq ?_ | refine tX hC hP (by kernel_rfl) ?_ | refine aX hC hM hP (by kernel_rfl) ?_ | refine AWP.skip ?_ | refine AWP.label ?_ | refine AWP.exit ?_ | refine AWP.block ?_ | refine cT (by simp only [go_sem, Nat.reduceEqDiff, ↓reduceIte]; with_reducible rfl) ?_ | refine cF (by simp only [go_sem, Nat.reduceEqDiff, ↓reduceIte]; with_reducible rfl) ?_) | simp only [qS, Nat.reduceEqDiff, ↓reduceIte]))
    (refine AWP.ret ?_; first | refine retOk1 (by simp only [go_sem, seval, ↓reduceIte, decide_true, decide_false]; rfl) ?_ | refine retOk2 (by simp only [go_sem, seval, ↓reduceIte, decide_true, decide_false]; rfl) (by simp only [go_sem, seval, ↓reduceIte, decide_true, decide_false]; rfl) (by simp) ?_ | refine retOk3 (by simp only [go_sem, seval, ↓reduceIte, decide_true, decide_false]; rfl) (by simp only [go_sem, seval, ↓reduceIte, decide_true, decide_false]; rfl) (by simp only [go_sem, seval, ↓reduceIte, decide_true, decide_false]; rfl) (by simp) ?_)
    simp [opV, e, hc]

end Go.Proofs.Ytamdpfnmclkljaa

/-
  Multiples of curves are compositions with multiples of the variable; counting tuples. No program.
-/
import Derived.Test.YtfnfdjomkohfjaaAc
import Derived.Test.YtfnfdjomkohfjaaRk
namespace Go.Proofs.Ytfnfdjomkohfjaa
open Go.RowKit
set_option linter.unusedSimpArgs false
set_option linter.unusedVariables false
set_option linter.unusedSectionVars false
set_option maxRecDepth 20000
-- Multiples of curves are compositions with multiples of the variable; counting tuples. No program.
namespace LwR
/-- The composition's value. -/
theorem v_cmp {R : Type} {K : Rg R} {N d : Nat} {m : Int} {t : Nat → Nat → Int} (L : LwR K N d m t) (a f : List Int) {x : R} (hx : L.S.O 1 x) : ∀ k, k ≤ d + 1 → v K d (cmpL m a f d k) x = K.s k (fun i => K.m (K.c (at' a (d + 1 - k + i))) (K.p (v K d f x) i))
  | 0, _ => L.v_zero x
  | k + 1, hk => by
    have h1 : cmpL m a f d (k + 1) = addL m (timesL m (cmpL m a f d k) f d) (tab (d + 1) (fun j => if j = 0 then at' a (d - k) % m else 0)) d := by
      rw [cmpL, addL]
      refine tab_congr fun j hj => ?_
      rw [at_tab hj, timesL, at_tab hj]
    have h2 : v K d (tab (d + 1) (fun j => if j = 0 then at' a (d - k) % m else 0)) x = K.c (at' a (d - k)) := by
      rw [L.v_tab, Rg.ev, K.s_one (show 0 < d + 1 by omega) (fun i h1 h2 => by rw [if_neg h2, K.mZl])]
      rw [if_pos rfl, Rg.p, K.mI, K.c_mod L.hc]
    rw [h1, L.v_add, L.v_times _ _ hx, h2, v_cmp L a f hx k (by omega), K.s_left, K.s_mulr, K.aC, show d + 1 - (k + 1) + 0 = d - k by omega, Rg.p, K.mI]
    refine congrArg (K.a _) (K.s_congr fun i hi => ?_)
    rw [show d + 1 - (k + 1) + (i + 1) = d + 1 - k + i by omega, K.mA]
    rfl
theorem v_cmpL {R : Type} {K : Rg R} {N d : Nat} {m : Int} {t : Nat → Nat → Int} (L : LwR K N d m t) (a f : List Int) {x : R} (hx : L.S.O 1 x) : v K d (cmpL m a f d (d + 1)) x = v K d a (v K d f x) := by
  rw [L.v_cmp a f hx (d + 1) (Nat.le_refl _), v, Rg.ev]
  exact K.s_congr fun i hi => by rw [show d + 1 - (d + 1) + i = i by omega]
end LwR
/-- In the ring of truncated series a list's value at the variable tells the list's members. -/
theorem v_at {N d : Nat} {m : Int} (hN : N ≤ d) (a : List Int) {i : Nat} (hi : i ≤ N) : ∀ f, Quotient.mk (pq N m) f = LwR.v (qr N m) d a (Quotient.mk (pq N m) (lnF 1 0)) → f i 0 % m = at' a i % m := by
  intro f hf
  have key : ∀ n, (qr N m).s n (fun k => (qr N m).m ((qr N m).c (at' a k)) ((qr N m).p (Quotient.mk (pq N m) (lnF 1 0)) k)) = Quotient.mk (pq N m) (zz.s n (fun k => zz.m (zz.c (at' a k)) (zz.p (lnF 1 0) k))) := by
    intro n
    induction n with
    | zero => rfl
    | succ n ih =>
      rw [Rg.s, ih, qr_p]
      rfl
  rw [LwR.v, Rg.ev, key] at hf
  have h := (Quotient.exact hf : (pq N m).r f _) i 0 (by omega)
  rw [h]
  have h2 : ∀ n, zz.s n (fun k => zz.m (zz.c (at' a k)) (zz.p (lnF 1 0) k)) i 0 = sm n (fun k => if i = k then at' a k else 0) := by
    intro n
    induction n with
    | zero => rw [Rg.s, zz_c, sm]; simp
    | succ n ih =>
      rw [Rg.s, zz_a, ih, sm, zz_cm, ln_pw]
      by_cases e : i = n
      · subst e
        rw [if_pos rfl, if_pos (by omega)]
        have : bn i i = 1 := by
          clear h hf ih key hi
          induction i with
          | zero => rfl
          | succ i ih => rw [bn_s, ih, bn_out i (i + 1) (by omega)]
        rw [this, Int.one_pow]; simp [Int.one_pow]
      · rw [if_neg e, if_neg (by omega)]; simp
  rw [h2, sm_one (show i < d + 1 by omega) (fun k _ hk => if_neg (fun e => hk e.symm)), if_pos rfl]
theorem list_mod {m : Int} {n : Nat} {a b : List Int} (hla : a.length = n) (hlb : b.length = n) (ha : ∀ x ∈ a, 0 ≤ x ∧ x < m) (hb : ∀ x ∈ b, 0 ≤ x ∧ x < m) (hm : 0 < m) (h : ∀ i, i < n → at' a i % m = at' b i % m) : a = b := by
  refine eq_of_at (by omega) (fun i hi => ?_)
  have h1 := at_bound ha hm i
  have h2 := at_bound hb hm i
  have h3 := h i (by omega)
  rw [Int.emod_eq_of_lt h1.1 h1.2, Int.emod_eq_of_lt h2.1 h2.2] at h3
  exact h3
/-- A curve's multiple, put together from the variable's. -/
theorem mu_cmp {m : Int} {d : Nat} {t : Nat → Nat → Int} (hm : 1 < m) (hd : 1 ≤ d) (out : ∀ i j, d < i + j → t i j = 0) (hw : IsLw m (d + 1) t) {x : List Int} (hx0 : at' x 0 = 0) (n : Nat) : cmpL m (muL m t d (zrL d) (varL d) n) x d (d + 1) = muL m t d (zrL d) x n := by
  let L : LwR (qr d m) d d m t := ⟨qf d m, Nat.le_refl _, hd, hm, Quotient.sound (show (pq d m).r (zz.c m) (zz.c 0) from fun u v _ => by rw [zz_c, zz_c]; split <;> simp), out, hw⟩
  have hX : L.S.O 1 (Quotient.mk (pq d m) (lnF 1 0)) := fun u v h1 _ => by rw [show u = 0 by omega, show v = 0 by omega]; rfl
  obtain ⟨X, hXe⟩ : ∃ X, X = (Quotient.mk (pq d m) (lnF 1 0)) := ⟨_, rfl⟩
  rw [← hXe] at hX
  have hvx : L.S.O 1 (LwR.v (qr d m) d x X) := by
    rw [LwR.v, Rg.ev]
    refine L.S.sum fun i hi => ?_
    by_cases e : i = 0
    · subst e
      rw [hx0, (qr d m).mZl]
      exact L.S.zero 1
    · have h1 := L.S.mul (L.S.cst ((qr d m).c (at' x i))) (L.S.pw1 hX i)
      exact L.S.low (by omega) h1
  have e1 := L.v_mu hX n (zrL d) x (by rw [zrL, L.v_zero]; exact L.S.zero 1) hvx
  have e2 := L.v_mu hvx n (zrL d) (varL d) (by rw [zrL, L.v_zero]; exact L.S.zero 1) (by rw [L.v_var]; exact hvx)
  have hz1 : LwR.v (qr d m) d (zrL d) X = (qr d m).c 0 := L.v_zero X
  have hz2 : LwR.v (qr d m) d (zrL d) (LwR.v (qr d m) d x X) = (qr d m).c 0 := L.v_zero _
  rw [hz1, L.zf] at e1
  rw [hz2, L.zf, L.v_var] at e2
  have e3 : LwR.v (qr d m) d (cmpL m (muL m t d (zrL d) (varL d) n) x d (d + 1)) X = LwR.v (qr d m) d (muL m t d (zrL d) x n) X := by
    rw [L.v_cmpL _ _ hX, e2, e1]
  have f1 := cmpL_num (show 0 < m by omega) (muL m t d (zrL d) (varL d) n) x d (d + 1)
  have f2 := muL_facts (t := t) (d := d) (m := m) (by omega) n (o := zrL d) (b := x) (tab_length _ _) (fun y hy => by
    obtain ⟨i, _, rfl⟩ := mem_tab.1 hy
    omega)
  have hl := cmpL_length m (muL m t d (zrL d) (varL d) n) x d (d + 1)
  obtain ⟨F, hF⟩ : ∃ F, Quotient.mk (pq d m) F = LwR.v (qr d m) d (muL m t d (zrL d) x n) X := by
    exact ⟨_, (Quotient.exists_rep (LwR.v (qr d m) d (muL m t d (zrL d) x n) X)).choose_spec⟩
  refine list_mod hl f2.1 f1 f2.2 (by omega) (fun i hi => ?_)
  rw [hXe] at hF e3
  rw [← v_at (Nat.le_refl d) (muL m t d (zrL d) x n) (show i ≤ d by omega) F hF, ← v_at (Nat.le_refl d) (cmpL m (muL m t d (zrL d) (varL d) n) x d (d + 1)) (show i ≤ d by omega) F (hF.trans e3.symm)]
theorem pw_cut {m : Int} {n k : Nat} {t : Nat → Nat → Int} (hk : k ≤ n) : ∀ i u v, u + v < k → pc (pwP m k (pc (tab2 k t)) i) u v = pc (pwP m n t i) u v
  | 0, u, v, h => by rw [pwP, pwP, numP, numP, pc_tab2 h, pc_tab2 (by omega)]
  | i + 1, u, v, h => by
    rw [pwP, pwP, pmul, pmul, pc_tab2 h, pc_tab2 (by omega)]
    refine congrArg (· % m) ?_
    unfold cv2
    refine sm_congr fun a ha => sm_congr fun b hb => ?_
    rw [pw_cut hk i a b (by omega), pc_tab2 (by omega)]
theorem pw_low {m : Int} {n : Nat} {t : Nat → Nat → Int} (ht : t 0 0 = 0) : ∀ i u v, u + v < i → pc (pwP m n t i) u v = 0
  | 0, u, v, h => by omega
  | i + 1, u, v, h => by
    by_cases hn : n ≤ u + v
    · rw [pwP, pmul, pc_out hn]
    · rw [pwP, pmul, pc_tab2 (by omega)]
      have : cv2 (pc (pwP m n t i)) t u v = 0 := by
        unfold cv2
        refine sm_zero fun a ha => sm_zero fun b hb => ?_
        by_cases e : a + b < i
        · rw [pw_low ht i a b e, Int.zero_mul]
        · rw [show u - a = 0 by omega, show v - b = 0 by omega, ht, Int.mul_zero]
      rw [this, Int.zero_emod]
/-- A law that is cut is a law. -/
theorem law_cut {m : Int} {k : Nat} {ll : List (List Int)} (h : lawB m ll = true) (hk : k ≤ ll.length) (h1 : 1 ≤ k) : IsLw m k (pc (tab2 k (pc ll))) := by
  have hw := (lawB_of h).2
  have h00 : pc ll 0 0 = 0 := by
    have := hw.1 0 (by omega)
    rwa [ok1, if_neg (by omega)] at this
  refine ⟨fun i hi => ?_, fun i j hij hn => ?_, fun a b c hn => ?_⟩
  · rw [ok1, pc_tab2 (by omega)]
    exact hw.1 i (by omega)
  · rw [pc_tab2 hn, pc_tab2 (by omega)]
    exact hw.2.1 i j hij (by omega)
  · have h3 := hw.2.2 a b c (by omega)
    have e1 : lfS m k (pc (tab2 k (pc ll))) a b c = lfS m ll.length (pc ll) a b c := by
      rw [lfS, lfS, sm_tail (show k - c ≤ ll.length - c by omega) (fun i h4 h5 => by rw [pw_low h00 i a b (by omega), Int.mul_zero])]
      exact sm_congr fun i hi => by rw [pw_cut hk i a b (by omega), pc_tab2 (by omega)]
    have e2 : rtS m k (pc (tab2 k (pc ll))) a b c = rtS m ll.length (pc ll) a b c := by
      rw [rtS, rtS, sm_tail (show k - a ≤ ll.length - a by omega) (fun i h4 h5 => by rw [pw_low h00 i b c (by omega), Int.mul_zero])]
      exact sm_congr fun i hi => by rw [pw_cut hk i b c (by omega), pc_tab2 (by omega)]
    rw [e1, e2]
    exact h3
-- Counting tuples that begin with some numbers.
def smC : Nat → (Nat → Nat) → Nat
  | 0, _ => 0
  | n + 1, f => smC n f + f n
theorem smC_congr {n : Nat} {f g : Nat → Nat} (h : ∀ i, i < n → f i = g i) : smC n f = smC n g := by
  induction n with
  | zero => rfl
  | succ n ih => rw [smC, smC, ih (fun i hi => h i (by omega)), h n (by omega)]
theorem smC_le {n b : Nat} {f : Nat → Nat} (h : ∀ i, i < n → f i ≤ b) : smC n f ≤ n * b := by
  induction n with
  | zero => simp [smC]
  | succ n ih =>
    have h1 := ih (fun i hi => h i (by omega))
    have h2 := h n (by omega)
    rw [smC, Nat.succ_mul]; omega
def cvN (M : Nat) (Z : List Int → Bool) : Nat → List Int → Nat
  | 0, p => if Z p = true then 1 else 0
  | d + 1, p => smC M (fun k => cvN M Z d (p ++ [(k : Int)]))
theorem cvN_le (M : Nat) (Z : List Int → Bool) : ∀ d p, cvN M Z d p ≤ M ^ d
  | 0, p => by rw [cvN]; split <;> simp
  | d + 1, p => by
    rw [cvN, Nat.pow_succ, Nat.mul_comm]
    exact smC_le fun k _ => cvN_le M Z d _
/-- The list behind k rounds of the loop. -/
def cvY (M j d : Nat) (x : List Int) : Nat → List Int
  | 0 => x
  | k + 1 => x.take j ++ (k : Int) :: List.replicate d ((M : Int) - 1)
theorem cvY_take {M j d : Nat} {x : List Int} (hx : x.length = j + d + 1) (k : Nat) : (cvY M j d x k).length = j + d + 1 ∧ (cvY M j d x k).take j = x.take j := by
  cases k with
  | zero => exact ⟨hx, rfl⟩
  | succ k =>
    have hl : (x.take j).length = j := by simp; omega
    refine ⟨by simp [cvY]; omega, ?_⟩
    rw [cvY, List.take_append_of_le_length (by omega), List.take_take, Nat.min_self]
theorem set_take {l : List Int} {j : Nat} (hj : j < l.length) (v : Int) : (l.set j v).take (j + 1) = l.take j ++ [v] := by
  rw [List.take_set, ← List.take_append_getElem hj, List.set_append_right _ _ (by simp; omega)]
  have : j - (l.take j).length = 0 := by simp; omega
  rw [this]; rfl
theorem cvY_next {M j d : Nat} {x : List Int} (hx : x.length = j + d + 1) (k : Nat) : (((cvY M j d x k).set j (k : Int)).take (j + 1) = x.take j ++ [(k : Int)]) ∧ ((cvY M j d x k).set j (k : Int)).take (j + 1) ++ List.replicate d ((M : Int) - 1) = cvY M j d x (k + 1) := by
  have h := cvY_take (M := M) hx k
  have e := set_take (l := cvY M j d x k) (j := j) (by omega) (k : Int)
  rw [h.2] at e
  exact ⟨e, by rw [e, cvY, List.append_assoc]; rfl⟩
theorem cvY_b {M j d : Nat} {x : List Int} (hb : ∀ z ∈ x, 0 ≤ z ∧ z < (M : Int)) {k : Nat} (hk : k ≤ M) (h1 : 1 ≤ M) : ∀ z ∈ cvY M j d x k, 0 ≤ z ∧ z < (M : Int) := by
  cases k with
  | zero => exact hb
  | succ k =>
    intro z hz
    rw [cvY, List.mem_append] at hz
    rcases hz with hz | hz
    · exact hb z (List.mem_of_mem_take hz)
    · rcases List.mem_cons.1 hz with e | e
      · omega
      · have := List.eq_of_mem_replicate e; omega
end Go.Proofs.Ytfnfdjomkohfjaa

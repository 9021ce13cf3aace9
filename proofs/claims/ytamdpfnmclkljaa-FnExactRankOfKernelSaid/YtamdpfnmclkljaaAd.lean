/-
  The ring of planes modulo a number; where a multiple begins.
-/
import Derived.Test.YtamdpfnmclkljaaAc
namespace Go.Proofs.Ytamdpfnmclkljaa
open Go.RowKit
set_option linter.unusedSimpArgs false
set_option linter.unusedVariables false
set_option linter.unusedSectionVars false
set_option maxRecDepth 20000
-- The ring of planes modulo a number; where a multiple begins.
theorem rgZ_s (n : Nat) (f : Nat → Int) : rgZ.s n f = sm n f := by
  induction n with
  | zero => rfl
  | succ n ih => rw [Rg.s, ih]; rfl
theorem ps_s {R : Type} (K : Rg R) (n : Nat) (G : Nat → Nat → R) (v : Nat) : (K.ps.s n G) v = K.s n (fun i => G i v) := by
  induction n with
  | zero => show (if v = 0 then K.c 0 else K.c 0) = K.c 0; simp
  | succ n ih => rw [Rg.s, Rg.s, ← ih]; rfl
def zz : Rg (Nat → Nat → Int) := rgZ.ps.ps
theorem zz_m (f g : Nat → Nat → Int) (u v : Nat) : zz.m f g u v = cv2 f g u v := by
  show (rgZ.ps.s (u + 1) (fun i => rgZ.ps.m (f i) (g (u - i)))) v = _
  rw [ps_s, rgZ_s]
  exact sm_congr fun i _ => rgZ_s _ _
theorem zz_a (f g : Nat → Nat → Int) (u v : Nat) : zz.a f g u v = f u v + g u v := rfl
theorem zz_c (i : Int) (u v : Nat) : zz.c i u v = if u = 0 ∧ v = 0 then i else 0 := by
  show (if u = 0 then rgZ.ps.c i else rgZ.ps.c 0) v = _
  by_cases hu : u = 0
  · rw [if_pos hu]
    show (if v = 0 then i else 0) = _
    simp [hu]
  · rw [if_neg hu]
    show (if v = 0 then (0 : Int) else 0) = _
    simp [hu]
theorem zz_cm (i : Int) (g : Nat → Nat → Int) (u v : Nat) : zz.m (zz.c i) g u v = i * g u v := by
  rw [zz_m, cv2, sm_one (show 0 < u + 1 by omega) (fun k _ h => sm_zero fun j _ => by rw [zz_c, if_neg (by omega), Int.zero_mul]), sm_one (show 0 < v + 1 by omega) (fun k _ h => by rw [zz_c, if_neg (by omega), Int.zero_mul])]
  rw [zz_c, if_pos ⟨rfl, rfl⟩]; rfl
def pq (N : Nat) (m : Int) : Setoid (Nat → Nat → Int) where
  r f g := ∀ u v, u + v ≤ N → f u v % m = g u v % m
  iseqv := ⟨fun _ _ _ _ => rfl, fun h u v e => (h u v e).symm, fun h1 h2 u v e => (h1 u v e).trans (h2 u v e)⟩
theorem pq_a {N : Nat} {m : Int} {f f' g g' : Nat → Nat → Int} (h1 : (pq N m).r f f') (h2 : (pq N m).r g g') : (pq N m).r (zz.a f g) (zz.a f' g') := fun u v e => by
  rw [zz_a, zz_a, Int.add_emod, h1 u v e, h2 u v e, ← Int.add_emod]
theorem pq_ml {N : Nat} {m : Int} {f f' : Nat → Nat → Int} (g : Nat → Nat → Int) (h1 : (pq N m).r f f') : (pq N m).r (zz.m f g) (zz.m f' g) := fun u v e => by
  rw [zz_m, zz_m]; exact cv2_emod fun i j h2 h3 => h1 i j (by omega)
theorem pq_m {N : Nat} {m : Int} {f f' g g' : Nat → Nat → Int} (h1 : (pq N m).r f f') (h2 : (pq N m).r g g') : (pq N m).r (zz.m f g) (zz.m f' g') := fun u v e => by
  rw [pq_ml g h1 u v e, zz.mC f' g, zz.mC f' g']; exact pq_ml f' h2 u v e
def qr (N : Nat) (m : Int) : Rg (Quotient (pq N m)) where
  a := Quotient.lift₂ (fun f g => Quotient.mk (pq N m) (zz.a f g)) (fun _ _ _ _ h1 h2 => Quotient.sound (pq_a h1 h2))
  m := Quotient.lift₂ (fun f g => Quotient.mk (pq N m) (zz.m f g)) (fun _ _ _ _ h1 h2 => Quotient.sound (pq_m h1 h2))
  c i := Quotient.mk (pq N m) (zz.c i)
  aC x y := Quotient.inductionOn₂ x y fun f g => congrArg (Quotient.mk (pq N m)) (zz.aC f g)
  aA x y z := Quotient.inductionOn₃ x y z fun f g h => congrArg (Quotient.mk (pq N m)) (zz.aA f g h)
  aZ x := Quotient.inductionOn x fun f => congrArg (Quotient.mk (pq N m)) (zz.aZ f)
  mC x y := Quotient.inductionOn₂ x y fun f g => congrArg (Quotient.mk (pq N m)) (zz.mC f g)
  mA x y z := Quotient.inductionOn₃ x y z fun f g h => congrArg (Quotient.mk (pq N m)) (zz.mA f g h)
  mI x := Quotient.inductionOn x fun f => congrArg (Quotient.mk (pq N m)) (zz.mI f)
  mZ x := Quotient.inductionOn x fun f => congrArg (Quotient.mk (pq N m)) (zz.mZ f)
  mD x y z := Quotient.inductionOn₃ x y z fun f g h => congrArg (Quotient.mk (pq N m)) (zz.mD f g h)
  cA i j := congrArg (Quotient.mk (pq N m)) (zz.cA i j)
  cM i j := congrArg (Quotient.mk (pq N m)) (zz.cM i j)
theorem qr_p {N : Nat} {m : Int} (f : Nat → Nat → Int) : ∀ n, (qr N m).p (Quotient.mk (pq N m) f) n = Quotient.mk (pq N m) (zz.p f n)
  | 0 => rfl
  | n + 1 => by rw [Rg.p, qr_p f n]; rfl
def qo (N : Nat) (m : Int) (k : Nat) : Quotient (pq N m) → Prop := Quotient.lift (fun f => ∀ u v, u + v < k → u + v ≤ N → f u v % m = 0) (fun f g h => by
  have h' : ∀ u v, u + v ≤ N → f u v % m = g u v % m := h
  exact propext ⟨fun H u v h1 h2 => by rw [← h' u v h2]; exact H u v h1 h2, fun H u v h1 h2 => by rw [h' u v h2]; exact H u v h1 h2⟩)
def qf (N : Nat) (m : Int) : Fil (qr N m) N where
  O := qo N m
  zero k := fun u v h1 h2 => by rw [zz_c]; simp
  add {k x y} := Quotient.inductionOn₂ x y fun f g h1 h2 => fun u v h3 h4 => by
    have e1 : f u v % m = 0 := h1 u v h3 h4
    have e2 : g u v % m = 0 := h2 u v h3 h4
    rw [zz_a, Int.add_emod, e1, e2]; simp
  mul {k l x y} := Quotient.inductionOn₂ x y fun f g h1 h2 => fun u v h3 h4 => by
    rw [zz_m, cv2, show (0 : Int) = sm (u + 1) (fun _ => 0) % m by rw [sm_zero fun _ _ => rfl]; simp]
    refine sm_emod fun i hi => ?_
    rw [show (0 : Int) = sm (v + 1) (fun _ => 0) by rw [sm_zero fun _ _ => rfl]]
    refine sm_emod fun j hj => ?_
    by_cases e : i + j < k
    · have e1 : f i j % m = 0 := h1 i j e (by omega)
      rw [Int.mul_emod, e1]; simp
    · have e2 : g (u - i) (v - j) % m = 0 := h2 (u - i) (v - j) (by omega) (by omega)
      rw [Int.mul_emod, e2]; simp
  cst x := Quotient.inductionOn x fun f => fun u v h1 _ => absurd h1 (by omega)
  low {k l x} hl := Quotient.inductionOn x fun f h => fun u v h1 h2 => h u v (by omega) h2
  top {k x} hk := Quotient.inductionOn x fun f h => Quotient.sound (show (pq N m).r f (zz.c 0) from fun u v e => by
    have e1 : f u v % m = 0 := h u v (by omega) e
    rw [e1, zz_c]; simp)
/-- Powers of linear planes. -/
def lnF (α β : Int) (u v : Nat) : Int := if u = 1 ∧ v = 0 then α else if u = 0 ∧ v = 1 then β else 0
theorem ln_mul (α β : Int) (g : Nat → Nat → Int) (u v : Nat) : zz.m (lnF α β) g u v = (if 0 < u then α * g (u - 1) v else 0) + (if 0 < v then β * g u (v - 1) else 0) := by
  rw [zz_m, cv2]
  have h0 : sm (v + 1) (fun j => lnF α β 0 j * g (u - 0) (v - j)) = if 0 < v then β * g u (v - 1) else 0 := by
    by_cases hv : 0 < v
    · rw [if_pos hv, sm_one (show 1 < v + 1 by omega) (fun j _ h => by simp [lnF, h])]
      simp [lnF]
    · rw [if_neg hv, sm_zero fun j hj => by simp [lnF, show j = 0 by omega]]
  cases u with
  | zero =>
    rw [show sm (0 + 1) (fun i => sm (v + 1) (fun j => lnF α β i j * g (0 - i) (v - j))) = 0 + sm (v + 1) (fun j => lnF α β 0 j * g (0 - 0) (v - j)) from rfl, h0]
    simp
  | succ u =>
    rw [sm_succ_left, h0, sm_one (show 0 < u + 1 by omega) (fun i _ h => sm_zero fun j _ => by simp [lnF, h])]
    rw [sm_one (show 0 < v + 1 by omega) (fun j _ h => by simp [lnF, h])]
    simp only [lnF, Nat.zero_add, and_self, if_true, Nat.sub_zero, Nat.add_sub_cancel, show 0 < u + 1 by omega]
    exact Int.add_comm _ _
/-- Binomial coefficients. -/
def bn : Nat → Nat → Nat
  | _, 0 => 1
  | 0, _ + 1 => 0
  | n + 1, k + 1 => bn n k + bn n (k + 1)
theorem bn_zero (n : Nat) : bn n 0 = 1 := by cases n <;> rfl
theorem bn_out : ∀ (n k : Nat), n < k → bn n k = 0
  | 0, _ + 1, _ => rfl
  | n + 1, k + 1, h => by rw [bn, bn_out n k (by omega), bn_out n (k + 1) (by omega)]
theorem bn_one : ∀ n, bn n 1 = n
  | 0 => rfl
  | n + 1 => by rw [bn, bn_zero, bn_one n, Nat.add_comm]
theorem ln_pw (α β : Int) : ∀ n u v, zz.p (lnF α β) n u v = if u + v = n then (bn n u : Int) * (α ^ u * β ^ v) else 0
  | 0, u, v => by
    rw [Rg.p, zz_c]
    by_cases h : u = 0 ∧ v = 0
    · rw [if_pos h, if_pos (by omega), h.1, h.2, bn_zero]; simp
    · rw [if_neg h, if_neg (by omega)]
  | n + 1, u, v => by
    rw [Rg.p, zz.mC, ln_mul]
    by_cases h : u + v = n + 1
    · rw [if_pos h]
      cases u with
      | zero =>
        rw [if_neg (by omega), if_pos (by omega), ln_pw α β n 0 (v - 1), if_pos (by omega), bn_zero, bn_zero, show v = v - 1 + 1 by omega, Int.pow_succ]
        simp only [Nat.add_sub_cancel, Int.natCast_one, Int.one_mul, Int.pow_zero, Int.zero_add]
        exact Int.mul_comm _ _
      | succ u =>
        rw [if_pos (by omega), ln_pw α β n (u + 1 - 1) v, if_pos (by omega), Nat.add_sub_cancel]
        cases v with
        | zero =>
          rw [if_neg (by omega), bn, bn_out n (u + 1) (by omega), Int.pow_succ, Nat.add_zero, Int.add_zero, Int.pow_zero, Int.mul_one, Int.mul_one, Int.mul_comm α, Int.mul_assoc]
        | succ v =>
          rw [if_pos (by omega), ln_pw α β n (u + 1) (v + 1 - 1), if_pos (by omega), Nat.add_sub_cancel, bn, Int.natCast_add, Int.add_mul, Int.pow_succ, Int.pow_succ]
          congr 1
          · rw [Int.mul_left_comm, Int.mul_comm (α ^ u) α]; simp only [Int.mul_assoc]
          · rw [Int.mul_left_comm, Int.mul_comm (β ^ v) β]; congr 1; rw [Int.mul_left_comm]
    · rw [if_neg h]
      have e1 : (if 0 < u then α * zz.p (lnF α β) n (u - 1) v else 0) = 0 := by
        split
        · rw [ln_pw α β n, if_neg (by omega), Int.mul_zero]
        · rfl
      have e2 : (if 0 < v then β * zz.p (lnF α β) n u (v - 1) else 0) = 0 := by
        split
        · rw [ln_pw α β n, if_neg (by omega), Int.mul_zero]
        · rfl
      rw [e1, e2]; rfl
theorem bn_s (n k : Nat) : bn (n + 1) (k + 1) = bn n k + bn n (k + 1) := rfl
theorem bn_p {p : Nat} (hp : p = 2 ∨ p = 3 ∨ p = 5 ∨ p = 7) (n k : Nat) : bn (n + p) (k + p) % p = (bn n k + bn n (k + p)) % p := by
  have l2 : ∀ n k, bn (n + 2) (k + 2) = bn n k + 2 * bn n (k + 1) + bn n (k + 2) := fun n k => by
    rw [bn_s (n + 1) (k + 1), bn_s n k, bn_s n (k + 1)]; simp only [Nat.add_assoc, Nat.reduceAdd]; omega
  have l3 : ∀ n k, bn (n + 3) (k + 3) = bn n k + 3 * bn n (k + 1) + 3 * bn n (k + 2) + bn n (k + 3) := fun n k => by
    rw [bn_s (n + 2) (k + 2), l2 n k, l2 n (k + 1)]; simp only [Nat.add_assoc, Nat.reduceAdd]; omega
  have l5 : ∀ n k, bn (n + 5) (k + 5) = bn n k + 5 * bn n (k + 1) + 10 * bn n (k + 2) + 10 * bn n (k + 3) + 5 * bn n (k + 4) + bn n (k + 5) := fun n k => by
    rw [show n + 5 = n + 3 + 2 from rfl, show k + 5 = k + 3 + 2 from rfl, l2 (n + 3) (k + 3), l3 n k, show k + 3 + 1 = k + 1 + 3 by omega, l3 n (k + 1), show k + 3 + 2 = k + 2 + 3 by omega, l3 n (k + 2)]
    simp only [Nat.add_assoc, Nat.reduceAdd]; omega
  have l7 : ∀ n k, bn (n + 7) (k + 7) = bn n k + 7 * bn n (k + 1) + 21 * bn n (k + 2) + 35 * bn n (k + 3) + 35 * bn n (k + 4) + 21 * bn n (k + 5) + 7 * bn n (k + 6) + bn n (k + 7) := fun n k => by
    rw [show n + 7 = n + 5 + 2 from rfl, show k + 7 = k + 5 + 2 from rfl, l2 (n + 5) (k + 5), l5 n k, show k + 5 + 1 = k + 1 + 5 by omega, l5 n (k + 1), show k + 5 + 2 = k + 2 + 5 by omega, l5 n (k + 2)]
    simp only [Nat.add_assoc, Nat.reduceAdd]; omega
  rcases hp with rfl | rfl | rfl | rfl
  · rw [l2]; omega
  · rw [l3]; omega
  · rw [l5]; omega
  · rw [l7]; omega
theorem bn_pp {p : Nat} (hp : p = 2 ∨ p = 3 ∨ p = 5 ∨ p = 7) : ∀ n k, bn (p * n) (p * k) % p = bn n k % p
  | n, 0 => by rw [Nat.mul_zero, bn_zero, bn_zero]
  | 0, k + 1 => by rw [Nat.mul_zero, bn_out 0 (p * (k + 1)) (Nat.mul_pos (by omega) (by omega))]; rfl
  | n + 1, k + 1 => by
    rw [Nat.mul_succ, Nat.mul_succ, bn_p hp, ← Nat.mul_succ, Nat.add_mod, bn_pp hp n k, bn_pp hp n (k + 1), ← Nat.add_mod, bn_s]
theorem pow_of {p : Nat} (hp : p = 2 ∨ p = 3 ∨ p = 5 ∨ p = 7) (N : Nat) : 1 ≤ N → (∀ j, 0 < j → j < N → bn N j % p = 0) → ∃ h, N = p ^ h := by
  induction N using Nat.strongRecOn with
  | _ N ih =>
    intro h1 h2
    by_cases e : N = 1
    · exact ⟨0, e⟩
    · have h3 := h2 1 (by omega) (by omega)
      rw [bn_one] at h3
      obtain ⟨M, rfl⟩ := Nat.dvd_of_mod_eq_zero h3
      have hM : 1 ≤ M := by
        rcases Nat.eq_zero_or_pos M with e0 | e0
        · rw [e0] at h1; simp at h1
        · exact e0
      have hlt : M < p * M := by rcases hp with rfl | rfl | rfl | rfl <;> omega
      obtain ⟨h, rfl⟩ := ih M hlt hM fun j hj hj2 => by
        rw [← bn_pp hp]
        exact h2 (p * j) (Nat.mul_pos (by omega) hj) ((Nat.mul_lt_mul_left (by omega)).2 hj2)
      exact ⟨h + 1, by rw [Nat.pow_succ, Nat.mul_comm]⟩
theorem p_low {R : Type} {K : Rg R} {N : Nat} (S : Fil K N) {s w : R} (hs : S.O 1 s) (hw : S.O 2 w) : ∀ n, ∃ r, S.O (n + 1) r ∧ K.p (K.a s w) n = K.a (K.p s n) r
  | 0 => ⟨K.c 0, S.zero _, (K.aZ _).symm⟩
  | n + 1 => by
    obtain ⟨r, hr, e⟩ := p_low S hs hw n
    refine ⟨K.a (K.m (K.p s n) w) (K.m r (K.a s w)), S.add (S.low (by omega) (S.mul (S.pw1 hs n) hw)) (S.low (by omega) (S.mul hr (S.add hs (S.low (by omega) hw)))), ?_⟩
    rw [Rg.p, e, K.mDr, K.mD, Rg.p, K.aA]
theorem prime_mul {m a b : Int} (hm : m = 2 ∨ m = 3 ∨ m = 5 ∨ m = 7) (h : a * b % m = 0) (ha : a % m ≠ 0) : b % m = 0 := by
  rw [Int.mul_emod] at h
  have h1 := emod_b a m (by omega)
  have h2 := emod_b b m (by omega)
  generalize a % m = x at *
  generalize b % m = y at *
  rcases hm with rfl | rfl | rfl | rfl
  · have : x = 1 := by omega
    subst this; omega
  · have : x = 1 ∨ x = 2 := by omega
    rcases this with rfl | rfl <;> omega
  · have : x = 1 ∨ x = 2 ∨ x = 3 ∨ x = 4 := by omega
    rcases this with rfl | rfl | rfl | rfl <;> omega
  · have : x = 1 ∨ x = 2 ∨ x = 3 ∨ x = 4 ∨ x = 5 ∨ x = 6 := by omega
    rcases this with rfl | rfl | rfl | rfl | rfl | rfl <;> omega
/-- Over a prime field the multiple by the prime begins at a power of it. -/
theorem height_lead {m : Int} {d : Nat} {t : Nat → Nat → Int} (pr : m = 2 ∨ m = 3 ∨ m = 5 ∨ m = 7) (hd : 1 ≤ d) (out : ∀ i j, d < i + j → t i j = 0) (hw : IsLw m (d + 1) t) {N : Nat} (hN : N ≤ d) {f : List Int} (hf : f = muL m t d (tab (d + 1) (fun _ => 0)) (varL d) m.toNat) (h0 : ∀ i, i < N → at' f i = 0) (hne : at' f N % m ≠ 0) : ∃ h, 1 ≤ h ∧ N = m.toNat ^ h := by
  have hm : ((m.toNat : Nat) : Int) = m := by omega
  let L : LwR (qr N m) N d m t := ⟨qf N m, hN, hd, by omega, Quotient.sound (show (pq N m).r (zz.c m) (zz.c 0) from fun u v _ => by rw [zz_c, zz_c]; split <;> simp), out, hw⟩
  let X : Quotient (pq N m) := Quotient.mk (pq N m) (lnF 1 0)
  let Y : Quotient (pq N m) := Quotient.mk (pq N m) (lnF 0 1)
  have hX : L.S.O 1 X := fun u v h1 _ => by rw [show u = 0 by omega, show v = 0 by omega]; rfl
  have hY : L.S.O 1 Y := fun u v h1 _ => by rw [show u = 0 by omega, show v = 0 by omega]; rfl
  have hv : ∀ z, L.S.O 1 z → L.kf m.toNat z = (qr N m).m ((qr N m).c (at' f N)) ((qr N m).p z N) := fun z hz => by
    have e1 := L.v_mu hz m.toNat (tab (d + 1) (fun _ => 0)) (varL d) (by rw [L.v_zero]; exact L.S.zero 1) (by rw [L.v_var]; exact hz)
    rw [L.v_zero, L.zf, L.v_var, ← hf] at e1
    rw [← e1]
    exact (qr N m).s_one (show N < d + 1 by omega) fun i h1 h2 => by
      by_cases e : i < N
      · show (qr N m).m ((qr N m).c (at' f i)) ((qr N m).p z i) = _
        rw [h0 i e, (qr N m).mZl]
      · rw [L.S.nil hz (show N < i by omega), (qr N m).mZ]
  have hN0 : N ≠ 0 := fun e => by
    have e1 : L.kf m.toNat X = (qr N m).c 0 := L.S.top (show N < 1 by omega) (L.kf_o hX _)
    rw [hv X hX] at e1
    have e2 : (pq N m).r (zz.m (zz.c (at' f N)) (zz.p (lnF 1 0) N)) (zz.c 0) := Quotient.exact (by
      rw [show (qr N m).p X N = _ from qr_p (lnF 1 0) N] at e1; exact e1)
    have e3 := e2 0 0 (by omega)
    rw [zz_cm, ln_pw, if_pos (by omega), zz_c, e] at e3
    simp [bn] at e3
    rw [e] at hne
    simp at hne
    exact hne e3
  have hcopy : ∀ j, 0 < j → j < N → bn N j % m.toNat = 0 := fun j hj hj2 => by
    have e1 := L.kf_F hX hY m.toNat
    obtain ⟨w, hw1, hw2⟩ := L.lin (Nat.le_refl 1) hX hY
    rw [hv _ (L.fo hX hY), hv X hX, hv Y hY, hw2] at e1
    obtain ⟨r, hr, e3⟩ := p_low L.S (L.S.add hX hY) hw1 N
    rw [e3, L.S.top (show N < N + 1 by omega) hr, (qr N m).aZ] at e1
    have oN : ∀ z, L.S.O 1 z → L.S.O N ((qr N m).m ((qr N m).c (at' f N)) ((qr N m).p z N)) := fun z hz => by
      have := L.S.mul (L.S.cst ((qr N m).c (at' f N))) (L.S.pw1 hz N)
      rwa [Nat.zero_add] at this
    obtain ⟨w', hw3, hw4⟩ := L.lin (show 1 ≤ N by omega) (oN X hX) (oN Y hY)
    rw [hw4, L.S.top (show N < 2 * N by omega) hw3, (qr N m).aZ] at e1
    rw [show (qr N m).a X Y = Quotient.mk (pq N m) (zz.a (lnF 1 0) (lnF 0 1)) from rfl, qr_p, show (qr N m).p X N = _ from qr_p (lnF 1 0) N, show (qr N m).p Y N = _ from qr_p (lnF 0 1) N] at e1
    have e4 : (pq N m).r (zz.m (zz.c (at' f N)) (zz.p (zz.a (lnF 1 0) (lnF 0 1)) N)) (zz.a (zz.m (zz.c (at' f N)) (zz.p (lnF 1 0) N)) (zz.m (zz.c (at' f N)) (zz.p (lnF 0 1) N))) := Quotient.exact e1
    have e5 := e4 j (N - j) (by omega)
    rw [show zz.a (lnF 1 0) (lnF 0 1) = lnF 1 1 from funext fun u => funext fun v => by
      rw [zz_a]; simp only [lnF]
      by_cases h1 : u = 1 ∧ v = 0
      · have h2 : ¬ (u = 0 ∧ v = 1) := by omega
        simp only [if_pos h1, if_neg h2]; rfl
      · by_cases h2 : u = 0 ∧ v = 1
        · simp only [if_neg h1, if_pos h2]; rfl
        · simp only [if_neg h1, if_neg h2]; rfl] at e5
    rw [zz_a, zz_cm, zz_cm, zz_cm, ln_pw, ln_pw, ln_pw, if_pos (by omega), if_pos (by omega), if_pos (by omega), Int.one_pow, Int.one_pow, Int.zero_pow (by omega), Int.zero_pow (by omega)] at e5
    simp only [Int.mul_one, Int.mul_zero, Int.zero_mul, Int.add_zero, Int.zero_emod] at e5
    have e6 := prime_mul pr e5 hne
    have e7 : ((bn N j % m.toNat : Nat) : Int) = 0 := by
      rw [show ((bn N j % m.toNat : Nat) : Int) = (bn N j : Int) % (m.toNat : Int) by first | rfl | simp, hm]; exact e6
    exact Int.natCast_eq_zero.1 e7
  obtain ⟨h, hh⟩ := pow_of (p := m.toNat) (by omega) N (by omega) hcopy
  refine ⟨h, ?_, hh⟩
  rcases Nat.eq_zero_or_pos h with e | e
  · exfalso
    rw [e, Nat.pow_zero] at hh
    have e1 : ∀ n, L.kf n X = (qr N m).m ((qr N m).c (n : Int)) X := fun n => by
      induction n with
      | zero => rw [LwR.kf]; exact ((qr N m).mZl X).symm
      | succ n ih =>
        obtain ⟨w, hw1, hw2⟩ := L.lin (Nat.le_refl 1) (L.kf_o hX n) hX
        rw [LwR.kf, hw2, L.S.top (show N < 2 * 1 by omega) hw1, (qr N m).aZ, ih, Int.natCast_add, (qr N m).cA, (qr N m).mDr, Int.natCast_one, (qr N m).mIl]
    have e2 := e1 m.toNat
    rw [hv X hX, hm, L.hc, (qr N m).mZl] at e2
    have e3 : (pq N m).r (zz.m (zz.c (at' f N)) (zz.p (lnF 1 0) N)) (zz.c 0) := Quotient.exact (by
      rw [show (qr N m).p X N = _ from qr_p (lnF 1 0) N] at e2; exact e2)
    have e4 := e3 1 0 (by omega)
    rw [zz_cm, ln_pw, if_pos (by omega), zz_c, hh] at e4
    simp [bn] at e4
    rw [hh] at hne
    exact hne e4
  · exact e

end Go.Proofs.Ytamdpfnmclkljaa

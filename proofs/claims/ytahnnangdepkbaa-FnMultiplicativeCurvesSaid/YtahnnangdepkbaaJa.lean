/-
  Rings for the norm over roots of unity. No program.
-/
import Derived.Test.YtahnnangdepkbaaAa
import Derived.Test.YtahnnangdepkbaaWr
import Derived.Test.YtahnnangdepkbaaWr
namespace Go.Proofs.Ytahnnangdepkbaa
open Go.RowKit
set_option linter.unusedSimpArgs false
set_option linter.unusedVariables false
set_option linter.unusedSectionVars false
set_option maxRecDepth 20000
-- Identities in two letters over a ring, by dense polynomials. No program.
/-- An expression in two letters z and y; q is a polynomial by its rows (powers of y) of integers (powers of z). -/
inductive Zye where
  | z : Zye
  | y : Zye
  | c (i : Int) : Zye
  | a (s t : Zye) : Zye
  | m (s t : Zye) : Zye
  | p (s : Zye) (n : Nat) : Zye
  | q (l : List (List Int)) : Zye
/-- The value of a list of integers at z. -/
def uV {R : Type} (K : Rg R) (z : R) : List Int → R
  | [] => K.c 0
  | x :: l => K.a (K.c x) (K.m z (uV K z l))
/-- The value of a list of lists at z and y. -/
def bV {R : Type} (K : Rg R) (z y : R) : List (List Int) → R
  | [] => K.c 0
  | f :: l => K.a (uV K z f) (K.m y (bV K z y l))
def Zye.v {R : Type} (K : Rg R) (z y : R) : Zye → R
  | .z => z
  | .y => y
  | .c i => K.c i
  | .a s t => K.a (Zye.v K z y s) (Zye.v K z y t)
  | .m s t => K.m (Zye.v K z y s) (Zye.v K z y t)
  | .p s n => K.p (Zye.v K z y s) n
  | .q l => bV K z y l
def uA : List Int → List Int → List Int
  | [], g => g
  | x :: f, [] => x :: f
  | x :: f, w :: g => (x + w) :: uA f g
def uS (k : Int) : List Int → List Int
  | [] => []
  | x :: f => (k * x) :: uS k f
def uM : List Int → List Int → List Int
  | [], _ => []
  | x :: f, g => uA (uS x g) (0 :: uM f g)
def bA : List (List Int) → List (List Int) → List (List Int)
  | [], g => g
  | x :: f, [] => x :: f
  | x :: f, w :: g => uA x w :: bA f g
def bS (k : List Int) : List (List Int) → List (List Int)
  | [] => []
  | x :: f => uM k x :: bS k f
def bM : List (List Int) → List (List Int) → List (List Int)
  | [], _ => []
  | x :: f, g => bA (bS x g) ([] :: bM f g)
def bP (f : List (List Int)) : Nat → List (List Int)
  | 0 => [[1]]
  | n + 1 => bM (bP f n) f
def Zye.n : Zye → List (List Int)
  | .z => [[0, 1]]
  | .y => [[], [1]]
  | .c i => [[i]]
  | .a s t => bA (Zye.n s) (Zye.n t)
  | .m s t => bM (Zye.n s) (Zye.n t)
  | .p s n => bP (Zye.n s) n
  | .q l => l
section
variable {R : Type} (K : Rg R) (z y : R)
theorem uV_a : ∀ f g, uV K z (uA f g) = K.a (uV K z f) (uV K z g)
  | [], g => (K.aZl _).symm
  | x :: f, [] => (K.aZ _).symm
  | x :: f, w :: g => by
    rw [uA, uV, uV, uV, uV_a f g, K.cA, K.mD, K.a4]
theorem uV_s (k : Int) : ∀ f, uV K z (uS k f) = K.m (K.c k) (uV K z f)
  | [] => (K.mZ _).symm
  | x :: f => by
    rw [uS, uV, uV, uV_s k f, K.cM, K.mD]
    congr 1
    ac_rfl
theorem uV_m : ∀ f g, uV K z (uM f g) = K.m (uV K z f) (uV K z g)
  | [], g => (K.mZl _).symm
  | x :: f, g => by
    rw [uM, uV_a, uV_s, uV, uV, uV_m f g, K.aZl, K.mDr, K.mA]
theorem bV_a : ∀ f g, bV K z y (bA f g) = K.a (bV K z y f) (bV K z y g)
  | [], g => (K.aZl _).symm
  | x :: f, [] => (K.aZ _).symm
  | x :: f, w :: g => by
    rw [bA, bV, bV, bV, bV_a f g, uV_a, K.mD, K.a4]
theorem bV_s (k : List Int) : ∀ f, bV K z y (bS k f) = K.m (uV K z k) (bV K z y f)
  | [] => (K.mZ _).symm
  | x :: f => by
    rw [bS, bV, bV, bV_s k f, uV_m, K.mD]
    congr 1
    ac_rfl
theorem bV_m : ∀ f g, bV K z y (bM f g) = K.m (bV K z y f) (bV K z y g)
  | [], g => (K.mZl _).symm
  | x :: f, g => by
    rw [bM, bV_a, bV_s, bV, bV, bV_m f g, uV, K.aZl, K.mDr, K.mA]
theorem bV_one : bV K z y [[1]] = K.c 1 := by
  rw [bV, bV, uV, uV, K.mZ, K.mZ, K.aZ, K.aZ]
theorem bV_p (f : List (List Int)) : ∀ n, bV K z y (bP f n) = K.p (bV K z y f) n
  | 0 => bV_one K z y
  | n + 1 => by rw [bP, bV_m, bV_p f n]; rfl
theorem Zye.n_v : ∀ e : Zye, bV K z y e.n = e.v K z y
  | .z => by
    show bV K z y [[0, 1]] = z
    rw [bV, bV, uV, uV, uV, K.mZ, K.mZ, K.aZ, K.aZ, K.aZl, K.mI]
  | .y => by
    show bV K z y [[], [1]] = y
    rw [bV, bV, bV, uV, uV, uV, K.mZ, K.mZ, K.aZ, K.aZ, K.aZl, K.mI]
  | .c i => by
    show bV K z y [[i]] = K.c i
    rw [bV, bV, uV, uV, K.mZ, K.mZ, K.aZ, K.aZ]
  | .a s t => by
    show bV K z y (bA s.n t.n) = K.a (s.v K z y) (t.v K z y)
    rw [bV_a, Zye.n_v s, Zye.n_v t]
  | .m s t => by
    show bV K z y (bM s.n t.n) = K.m (s.v K z y) (t.v K z y)
    rw [bV_m, Zye.n_v s, Zye.n_v t]
  | .p s n => by
    show bV K z y (bP s.n n) = K.p (s.v K z y) n
    rw [bV_p, Zye.n_v s]
  | .q l => rfl
theorem uV_zero : ∀ f : List Int, f.all (fun x => x == 0) = true → uV K z f = K.c 0
  | [], _ => rfl
  | x :: f, h => by
    rw [List.all_cons, Bool.and_eq_true] at h
    rw [uV, uV_zero f h.2, eq_of_beq h.1, K.mZ, K.aZ]
theorem bV_zero : ∀ f : List (List Int), f.all (fun g => g.all (fun x => x == 0)) = true → bV K z y f = K.c 0
  | [], _ => rfl
  | x :: f, h => by
    rw [List.all_cons, Bool.and_eq_true] at h
    rw [bV, bV_zero f h.2, uV_zero K z x h.1, K.mZ, K.aZ]
/-- Two expressions with the same polynomial have the same value. -/
theorem Zye.same (s t : Zye) (h : (Zye.n (.a s (.m (.c (-1)) t))).all (fun g => g.all (fun x => x == 0)) = true) : s.v K z y = t.v K z y := by
  have h0 : K.a (s.v K z y) (K.m (K.c (-1)) (t.v K z y)) = K.c 0 := (Zye.n_v K z y (.a s (.m (.c (-1)) t))).symm.trans (bV_zero K z y _ h)
  have h1 : K.a (K.m (K.c (-1)) (t.v K z y)) (t.v K z y) = K.c 0 := by
    have e : K.a (K.m (K.c (-1)) (t.v K z y)) (K.m (K.c 1) (t.v K z y)) = K.c 0 := by
      rw [← K.mDr, ← K.cA, show (-1 + 1 : Int) = 0 from rfl, K.mZl]
    rw [K.mIl] at e
    exact e
  have h2 : s.v K z y = K.a (s.v K z y) (K.a (K.m (K.c (-1)) (t.v K z y)) (t.v K z y)) := by rw [h1, K.aZ]
  rw [h2, ← K.aA, h0, K.aZl]
/-- The same where an expression is 0. -/
theorem Zye.same0 (d s t q : Zye) (hd : d.v K z y = K.c 0) (h : (Zye.n (.a s (.m (.c (-1)) (.a t (.m d q))))).all (fun g => g.all (fun x => x == 0)) = true) : s.v K z y = t.v K z y := by
  have e := Zye.same K z y s (.a t (.m d q)) h
  rw [e]
  show K.a (t.v K z y) (K.m (d.v K z y) (q.v K z y)) = _
  rw [hd, K.mZl, K.aZ]
end
-- Rings for the norm over roots of unity. No program.
/-- Series over a ring. -/
def PS {R : Type} (K : Rg R) := Nat → R
instance psAdd {R : Type} (K : Rg R) : Add (PS K) := ⟨K.ps.a⟩
instance psMul {R : Type} (K : Rg R) : Mul (PS K) := ⟨K.ps.m⟩
instance psNeg {R : Type} (K : Rg R) : Neg (PS K) := ⟨fun f => K.ps.m (K.ps.c (-1)) f⟩
instance psSub {R : Type} (K : Rg R) : HSub (PS K) (PS K) (PS K) := ⟨fun f g => K.ps.a f (K.ps.m (K.ps.c (-1)) g)⟩
instance psNum {R : Type} (K : Rg R) (n : Nat) : OfNat (PS K) n := ⟨K.ps.c (n : Int)⟩
instance psPow {R : Type} (K : Rg R) : Pow (PS K) Nat := ⟨fun f n => K.ps.p f n⟩
theorem Rg.m4 {R : Type} (K : Rg R) (x y z w : R) : K.m (K.m x y) (K.m z w) = K.m (K.m x z) (K.m y w) := by ac_rfl
theorem Rg.mL {R : Type} (K : Rg R) (x y z : R) : K.m x (K.m y z) = K.m y (K.m x z) := by ac_rfl
theorem PS.mul_one {R : Type} {K : Rg R} (f : PS K) : f * 1 = f := K.ps.mI f
theorem PS.one_mul {R : Type} {K : Rg R} (f : PS K) : 1 * f = f := K.ps.mIl f
theorem PS.pow_succ {R : Type} {K : Rg R} (f : PS K) (n : Nat) : f ^ (n + 1) = f ^ n * f := rfl
theorem PS.m4 {R : Type} {K : Rg R} (a b c d : PS K) : a * b * (c * d) = a * c * (b * d) := K.ps.m4 a b c d
theorem PS.mL {R : Type} {K : Rg R} (a b c : PS K) : a * (b * c) = b * (a * c) := K.ps.mL a b c
theorem PS.add_assoc {R : Type} {K : Rg R} (a b c : PS K) : a + b + c = a + (b + c) := K.ps.aA a b c
theorem PS.sub_self {R : Type} {K : Rg R} (a : PS K) : a - a = 0 := Zye.same K.ps a a (.a .z (.m (.c (-1)) .z)) (.c 0) (by decide +kernel)
theorem PS.add_negx {R : Type} {K : Rg R} (a b : PS K) : a + -1 * b = a - b := Zye.same K.ps a b (.a .z (.m (.m (.c (-1)) (.c 1)) .y)) (.a .z (.m (.c (-1)) .y)) (by decide +kernel)
theorem PS.mul_1sub {R : Type} {K : Rg R} (a b : PS K) : a * (1 - b) = a - b * a := Zye.same K.ps a b (.m .z (.a (.c 1) (.m (.c (-1)) .y))) (.a .z (.m (.c (-1)) (.m .y .z))) (by decide +kernel)
theorem PS.zero_sub1 {R : Type} {K : Rg R} : (-1 : PS K) = 0 - 1 := Zye.same K.ps (1 : PS K) (1 : PS K) (.m (.c (-1)) (.c 1)) (.a (.c 0) (.m (.c (-1)) (.c 1))) (by decide +kernel)
theorem PS.two1 {R : Type} {K : Rg R} (a b : PS K) : (1 - a) * (1 - b) = 1 - (b + (a + -1 * (a * b))) :=
  Zye.same K.ps a b (.m (.a (.c 1) (.m (.c (-1)) .z)) (.a (.c 1) (.m (.c (-1)) .y))) (.a (.c 1) (.m (.c (-1)) (.a .y (.a .z (.m (.m (.c (-1)) (.c 1)) (.m .z .y)))))) (by decide +kernel)
theorem PS.ext {R : Type} {K : Rg R} {f g : PS K} (h : ∀ n, f n = g n) : f = g := funext h
theorem PS.mul_at {R : Type} {K : Rg R} (f g : PS K) (n : Nat) : (f * g) n = K.s (n + 1) (fun i => K.m (f i) (g (n - i))) := rfl
theorem PS.one_at {R : Type} {K : Rg R} (n : Nat) : (1 : PS K) n = if n = 0 then K.c 1 else K.c 0 := rfl
/-- One number, at the place k. -/
def PS.mo {R : Type} (K : Rg R) (k : Nat) (x : R) : PS K := fun n => if n = k then x else K.c 0
theorem PS.mo_mul {R : Type} {K : Rg R} (k : Nat) (x : R) (f : PS K) (n : Nat) : (PS.mo K k x * f) n = if k ≤ n then K.m x (f (n - k)) else K.c 0 := by
  rw [PS.mul_at]
  by_cases h : k ≤ n
  · rw [if_pos h, K.s_one (show k < n + 1 by omega) fun i _ hi => by rw [PS.mo, if_neg hi, K.mZl], PS.mo, if_pos rfl]
  · rw [if_neg h]
    exact K.s_zero fun i hi => by rw [PS.mo, if_neg (by omega), K.mZl]
theorem PS.sub_at {R : Type} {K : Rg R} (f g : PS K) (n : Nat) : (f - g) n = K.a (f n) (K.m (K.c (-1)) (g n)) := by
  have h : (f - g) n = K.a (f n) ((PS.mo K 0 (K.c (-1)) * g) n) := rfl
  rw [h, PS.mo_mul, if_pos (Nat.zero_le _), Nat.sub_zero]
theorem PS.mo_mo {R : Type} {K : Rg R} (k l : Nat) (x y : R) : PS.mo K k x * PS.mo K l y = PS.mo K (k + l) (K.m x y) := PS.ext fun n => by
  rw [PS.mo_mul]
  unfold PS.mo
  by_cases h : k ≤ n
  · rw [if_pos h]
    by_cases h2 : n - k = l
    · rw [if_pos h2, if_pos (by omega)]
    · rw [if_neg h2, if_neg (by omega), K.mZ]
  · rw [if_neg h, if_neg (by omega)]
theorem PS.mo_pow {R : Type} {K : Rg R} (k : Nat) (x : R) (e : Nat) : (PS.mo K k x) ^ e = PS.mo K (k * e) (K.p x e) := by
  induction e with
  | zero => rfl
  | succ e ih =>
    rw [PS.pow_succ, ih, PS.mo_mo, Nat.mul_succ]; rfl
/-- A series of integers. -/
def PS.li {R : Type} (K : Rg R) (f : Nat → Int) : PS K := fun n => K.c (f n)
theorem PS.li_mul {R : Type} {K : Rg R} (f g : Nat → Int) : PS.li K (cv f g) = PS.li K f * PS.li K g := PS.ext fun n => by
  rw [PS.mul_at]
  show K.c (sm (n + 1) fun i => f i * g (n - i)) = _
  rw [K.c_sm]
  exact K.s_congr fun i _ => K.cM _ _
theorem PS.li_one {R : Type} {K : Rg R} : PS.li K oneF = 1 := PS.ext fun n => by
  rw [PS.one_at]
  show K.c (oneF n) = _
  unfold oneF
  split <;> rfl
theorem PS.li_pow {R : Type} {K : Rg R} (f : Nat → Int) (e : Nat) : PS.li K (pwF f e) = (PS.li K f) ^ e := by
  induction e with
  | zero => exact PS.li_one
  | succ e ih => rw [pwF, PS.li_mul, ih]; rfl
/-- The series at w t. -/
def PS.tw {R : Type} {K : Rg R} (w : R) (f : PS K) : PS K := fun n => K.m (K.p w n) (f n)
theorem PS.tw_mul {R : Type} {K : Rg R} (w : R) (f g : PS K) : PS.tw w (f * g) = PS.tw w f * PS.tw w g := PS.ext fun n => by
  rw [PS.mul_at]
  show K.m (K.p w n) ((f * g) n) = _
  rw [PS.mul_at, K.s_mul]
  refine K.s_congr fun i hi => ?_
  show _ = K.m (K.m (K.p w i) (f i)) (K.m (K.p w (n - i)) (g (n - i)))
  rw [show K.p w n = K.m (K.p w i) (K.p w (n - i)) by rw [← K.p_add, show i + (n - i) = n by omega]]
  ac_rfl
theorem PS.tw_one {R : Type} {K : Rg R} (w : R) : PS.tw w (1 : PS K) = 1 := PS.ext fun n => by
  show K.m (K.p w n) ((1 : PS K) n) = (1 : PS K) n
  rw [PS.one_at]
  split
  · rename_i h; subst h; exact K.mI _
  · exact K.mZ _
/-- The series at t^n. -/
def PS.sp {R : Type} {K : Rg R} (n : Nat) (f : PS K) : PS K := fun k => if k % n = 0 then f (k / n) else K.c 0
theorem Rg.s_mult {R : Type} (K : Rg R) {n : Nat} (hn : 0 < n) (F : Nat → R) (q : Nat) : K.s (n * q + 1) (fun i => if i % n = 0 then F (i / n) else K.c 0) = K.s (q + 1) F := by
  induction q with
  | zero => rw [Nat.mul_zero, s, s, s, s, Nat.zero_mod, if_pos rfl, Nat.zero_div]
  | succ q ih =>
    obtain ⟨p, hp⟩ : ∃ p, n = p + 1 := ⟨n - 1, by omega⟩
    have e1 : n * (q + 1) = n * q + p + 1 := by rw [Nat.mul_succ]; omega
    rw [s, show n * (q + 1) % n = 0 from Nat.mul_mod_right _ _, if_pos rfl, Nat.mul_div_cancel_left _ hn, s]
    congr 1
    rw [← ih, e1]
    refine K.s_tail (by omega) fun i h1 h2 => ?_
    rw [if_neg]
    intro h0
    obtain ⟨c, hc⟩ := Nat.dvd_of_mod_eq_zero h0
    have h5 : n * q < n * c := by omega
    have h6 : n * c < n * (q + 1) := by omega
    have := Nat.lt_of_mul_lt_mul_left h5
    have := Nat.lt_of_mul_lt_mul_left h6
    omega
theorem PS.sp_mul {R : Type} {K : Rg R} {n : Nat} (hn : 0 < n) (f g : PS K) : PS.sp n (f * g) = PS.sp n f * PS.sp n g := PS.ext fun k => by
  rw [PS.mul_at]
  show (if k % n = 0 then (f * g) (k / n) else K.c 0) = _
  by_cases h : k % n = 0
  · rw [if_pos h]
    obtain ⟨q, rfl⟩ := Nat.dvd_of_mod_eq_zero h
    rw [Nat.mul_div_cancel_left _ hn, PS.mul_at, ← K.s_mult hn]
    refine K.s_congr fun i hi => ?_
    show _ = K.m (if i % n = 0 then f (i / n) else K.c 0) (if (n * q - i) % n = 0 then g ((n * q - i) / n) else K.c 0)
    by_cases h1 : i % n = 0
    · obtain ⟨j, rfl⟩ := Nat.dvd_of_mod_eq_zero h1
      have e1 : n * q - n * j = n * (q - j) := (Nat.mul_sub ..).symm
      rw [if_pos h1, if_pos h1, e1, Nat.mul_mod_right, if_pos rfl, Nat.mul_div_cancel_left _ hn, Nat.mul_div_cancel_left _ hn]
    · rw [if_neg h1, if_neg h1, K.mZl]
  · rw [if_neg h]
    refine (K.s_zero fun i hi => ?_).symm
    show K.m (if i % n = 0 then f (i / n) else K.c 0) (if (k - i) % n = 0 then g ((k - i) / n) else K.c 0) = _
    by_cases h1 : i % n = 0
    · rw [if_neg (show ¬ (k - i) % n = 0 from fun h2 => h (by
        have : k = i + (k - i) := by omega
        rw [this, Nat.add_mod, h1, h2]; simp)), K.mZ]
    · rw [if_neg h1, K.mZl]
theorem PS.sp_one {R : Type} {K : Rg R} {n : Nat} (hn : 0 < n) : PS.sp n (1 : PS K) = 1 := PS.ext fun k => by
  show (if k % n = 0 then (1 : PS K) (k / n) else K.c 0) = (1 : PS K) k
  rw [PS.one_at, PS.one_at]
  by_cases h : k % n = 0
  · obtain ⟨q, rfl⟩ := Nat.dvd_of_mod_eq_zero h
    rw [if_pos h, Nat.mul_div_cancel_left _ hn]
    by_cases hq : q = 0
    · subst hq; rfl
    · rw [if_neg hq, if_neg (by intro h0; rcases Nat.mul_eq_zero.1 h0 with h | h <;> omega)]
  · rw [if_neg h, if_neg (by intro h0; subst h0; exact h (Nat.zero_mod n))]
theorem PS.sp_pow {R : Type} {K : Rg R} {n : Nat} (hn : 0 < n) (f : PS K) (e : Nat) : PS.sp n (f ^ e) = (PS.sp n f) ^ e := by
  induction e with
  | zero => exact PS.sp_one hn
  | succ e ih => rw [PS.pow_succ, PS.pow_succ, PS.sp_mul hn, ih]
theorem PS.sp_mo {R : Type} {K : Rg R} {n : Nat} (hn : 0 < n) (k : Nat) (x : R) : PS.sp n (PS.mo K k x) = PS.mo K (n * k) x := PS.ext fun i => by
  show (if i % n = 0 then PS.mo K k x (i / n) else K.c 0) = PS.mo K (n * k) x i
  unfold PS.mo
  by_cases h : i % n = 0
  · obtain ⟨q, rfl⟩ := Nat.dvd_of_mod_eq_zero h
    rw [if_pos h, Nat.mul_div_cancel_left _ hn]
    by_cases hq : q = k
    · subst hq; rw [if_pos rfl, if_pos rfl]
    · rw [if_neg hq, if_neg (fun h0 => hq (Nat.eq_of_mul_eq_mul_left hn h0))]
  · rw [if_neg h, if_neg (by intro h0; subst h0; exact h (Nat.mul_mod_right n k))]
theorem PS.sp_sub {R : Type} {K : Rg R} {n : Nat} (f g : PS K) : PS.sp n (f - g) = PS.sp n f - PS.sp n g := PS.ext fun i => by
  rw [PS.sub_at]
  show (if i % n = 0 then (f - g) (i / n) else K.c 0) = K.a (if i % n = 0 then f (i / n) else K.c 0) (K.m (K.c (-1)) (if i % n = 0 then g (i / n) else K.c 0))
  split
  · exact PS.sub_at f g _
  · rw [K.mZ, K.aZ]
theorem PS.tw_sub {R : Type} {K : Rg R} (w : R) (f g : PS K) : PS.tw w (f - g) = PS.tw w f - PS.tw w g := PS.ext fun i => by
  rw [PS.sub_at]
  show K.m (K.p w i) ((f - g) i) = K.a (K.m (K.p w i) (f i)) (K.m (K.c (-1)) (K.m (K.p w i) (g i)))
  rw [PS.sub_at, K.mD]
  congr 1
  ac_rfl
theorem PS.tw_mo {R : Type} {K : Rg R} (w : R) (k : Nat) (x : R) : PS.tw w (PS.mo K k x) = PS.mo K 0 (K.p w k) * PS.mo K k x := by
  rw [PS.mo_mo, Nat.zero_add]
  refine PS.ext fun i => ?_
  show K.m (K.p w i) (if i = k then x else K.c 0) = if i = k then K.m (K.p w k) x else K.c 0
  split
  · rename_i h; subst h; rfl
  · exact K.mZ _
/-- The norm over the powers of z. -/
def PS.nrm {R : Type} {K : Rg R} (z : R) (f : PS K) : Nat → PS K
  | 0 => 1
  | n + 1 => PS.nrm z f n * PS.tw (K.p z n) f
theorem PS.nrm_mul {R : Type} {K : Rg R} (z : R) (f g : PS K) : ∀ n, PS.nrm z (f * g) n = PS.nrm z f n * PS.nrm z g n
  | 0 => (PS.mul_one (1 : PS K)).symm
  | n + 1 => by
    rw [PS.nrm, PS.nrm, PS.nrm, PS.nrm_mul z f g n, PS.tw_mul]
    exact PS.m4 _ _ _ _
theorem PS.nrm_one {R : Type} {K : Rg R} (z : R) : ∀ n, PS.nrm z (1 : PS K) n = 1
  | 0 => rfl
  | n + 1 => by
    rw [PS.nrm, PS.nrm_one z n, PS.tw_one]
    exact PS.mul_one (1 : PS K)
/-- What is the product of 1 - Z^j Y. -/
def nB {R : Type} {K : Rg R} (Z Y : PS K) : Nat → PS K
  | 0 => 1
  | n + 1 => nB Z Y n * (1 - Z ^ n * Y)
def nBE (r : Nat) : Nat → Zye
  | 0 => .c 1
  | n + 1 => .m (nBE r n) (.a (.c 1) (.m (.c (-1)) (.m (.p (.p .z r) n) .y)))
theorem nBE_v {R : Type} {K : Rg R} (z Y : PS K) (r : Nat) : ∀ n, (nBE r n).v K.ps z Y = nB (z ^ r) Y n
  | 0 => rfl
  | n + 1 => by rw [nB, ← nBE_v z Y r n]; rfl
theorem nB_of {R : Type} {K : Rg R} (z Y : PS K) (n r : Nat) (d q : Zye) (hd : d.v K.ps z Y = K.ps.c 0)
    (h : (Zye.n (.a (nBE r n) (.m (.c (-1)) (.a (.p (.a (.c 1) (.m (.c (-1)) (.p .y (n / Nat.gcd n r)))) (Nat.gcd n r)) (.m d q))))).all (fun g => g.all (fun x => x == 0)) = true) :
    nB (z ^ r) Y n = (1 - Y ^ (n / Nat.gcd n r)) ^ Nat.gcd n r :=
  (nBE_v z Y r n).symm.trans (Zye.same0 K.ps z Y d (nBE r n) (.p (.a (.c 1) (.m (.c (-1)) (.p .y (n / Nat.gcd n r)))) (Nat.gcd n r)) q hd h)
def cyE2 : Zye := (.a .z (.m (.c (-1)) (.m (.c (-1)) (.c 1))))
theorem nB2 {R : Type} {K : Rg R} (z Y : PS K) (h : z = -1) (r : Nat) (hr : r < 2) : nB (z ^ r) Y 2 = (1 - Y ^ (2 / Nat.gcd 2 r)) ^ Nat.gcd 2 r := by
  have hd : (cyE2).v K.ps z Y = K.ps.c 0 := by
    show z - (-1) = 0
    rw [h]
    exact PS.sub_self _
  match r, hr with
  | 0, _ => exact nB_of z Y 2 0 cyE2 (.q []) hd (by decide +kernel)
  | 1, _ => exact nB_of z Y 2 1 cyE2 (.q [[], [-1], [1]]) hd (by decide +kernel)
def cyE3 : Zye := (.a (.p .z 2) (.m (.c (-1)) (.a (.m (.c (-1)) (.c 1)) (.m (.c (-1)) .z))))
theorem nB3 {R : Type} {K : Rg R} (z Y : PS K) (h : z ^ 2 = -1 - z) (r : Nat) (hr : r < 3) : nB (z ^ r) Y 3 = (1 - Y ^ (3 / Nat.gcd 3 r)) ^ Nat.gcd 3 r := by
  have hd : (cyE3).v K.ps z Y = K.ps.c 0 := by
    show z ^ 2 - (-1 - z) = 0
    rw [h]
    exact PS.sub_self _
  match r, hr with
  | 0, _ => exact nB_of z Y 3 0 cyE3 (.q []) hd (by decide +kernel)
  | 1, _ => exact nB_of z Y 3 1 cyE3 (.q [[], [-1], [0, 1], [1, -1]]) hd (by decide +kernel)
  | 2, _ => exact nB_of z Y 3 2 cyE3 (.q [[], [-1, 1, -1], [0, 0, 1, -1, 1], [1, -1, 0, 1, -1]]) hd (by decide +kernel)
def cyE4 : Zye := (.a (.p .z 2) (.m (.c (-1)) (.m (.c (-1)) (.c 1))))
theorem nB4 {R : Type} {K : Rg R} (z Y : PS K) (h : z ^ 2 = -1) (r : Nat) (hr : r < 4) : nB (z ^ r) Y 4 = (1 - Y ^ (4 / Nat.gcd 4 r)) ^ Nat.gcd 4 r := by
  have hd : (cyE4).v K.ps z Y = K.ps.c 0 := by
    show z ^ 2 - (-1) = 0
    rw [h]
    exact PS.sub_self _
  match r, hr with
  | 0, _ => exact nB_of z Y 4 0 cyE4 (.q []) hd (by decide +kernel)
  | 1, _ => exact nB_of z Y 4 1 cyE4 (.q [[], [-1, -1], [0, 1, 1, 1], [0, 0, 0, -1, -1], [1, 0, -1, 0, 1]]) hd (by decide +kernel)
  | 2, _ => exact nB_of z Y 4 2 cyE4 (.q [[], [-1, 0, 0, 0, -1], [2, 0, -1, 0, 2, 0, 0, 0, 1], [0, 0, 0, 0, 0, 0, -1, 0, 0, 0, -1], [-1, 0, 1, 0, -1, 0, 1, 0, -1, 0, 1]]) hd (by decide +kernel)
  | 3, _ => exact nB_of z Y 4 3 cyE4 (.q [[], [-1, 0, 1, -1, -1, 1, 0, -1], [0, 0, 0, 1, 0, -1, 1, 1, -1, 1, 1, -1, 0, 1], [0, 0, 0, 0, 0, 0, 0, 0, 0, -1, 0, 1, -1, -1, 1, 0, -1], [1, 0, -1, 0, 1, 0, -1, 0, 1, 0, -1, 0, 1, 0, -1, 0, 1]]) hd (by decide +kernel)
def cyE5 : Zye := (.a (.p .z 4) (.m (.c (-1)) (.a (.a (.a (.m (.c (-1)) (.c 1)) (.m (.c (-1)) .z)) (.m (.c (-1)) (.p .z 2))) (.m (.c (-1)) (.p .z 3)))))
theorem nB5 {R : Type} {K : Rg R} (z Y : PS K) (h : z ^ 4 = -1 - z - z ^ 2 - z ^ 3) (r : Nat) (hr : r < 5) : nB (z ^ r) Y 5 = (1 - Y ^ (5 / Nat.gcd 5 r)) ^ Nat.gcd 5 r := by
  have hd : (cyE5).v K.ps z Y = K.ps.c 0 := by
    show z ^ 4 - (-1 - z - z ^ 2 - z ^ 3) = 0
    rw [h]
    exact PS.sub_self _
  match r, hr with
  | 0, _ => exact nB_of z Y 5 0 cyE5 (.q []) hd (by decide +kernel)
  | 1, _ => exact nB_of z Y 5 1 cyE5 (.q [[], [-1], [0, 1, 0, 1], [0, 0, 0, -1, 0, -1], [0, 0, 0, 0, 0, 0, 1], [1, -1, 0, 0, 0, 1, -1]]) hd (by decide +kernel)
  | 2, _ => exact nB_of z Y 5 2 cyE5 (.q [[], [-1, 1, -1, 1, -1], [0, 0, 1, -1, 1, -1, 2, -1, 1, -1, 1], [0, 0, 0, 0, 0, 0, -1, 1, -1, 1, -2, 1, -1, 1, -1], [0, 0, 0, 0, 0, 0, 0, 0, 0, 0, 0, 0, 1, -1, 1, -1, 1], [1, -1, 0, 0, 0, 1, -1, 0, 0, 0, 1, -1, 0, 0, 0, 1, -1]]) hd (by decide +kernel)
  | 3, _ => exact nB_of z Y 5 3 cyE5 (.q [[], [-1, 1, 0, -1, 1, -1, 0, 1, -1], [0, 0, 0, 1, -1, 0, 1, -1, 1, 1, -2, 1, 1, -1, 1, 0, -1, 1], [0, 0, 0, 0, 0, 0, 0, 0, 0, -1, 1, 0, -1, 1, -1, -1, 2, -1, -1, 1, -1, 0, 1, -1], [0, 0, 0, 0, 0, 0, 0, 0, 0, 0, 0, 0, 0, 0, 0, 0, 0, 0, 1, -1, 0, 1, -1, 1, 0, -1, 1], [1, -1, 0, 0, 0, 1, -1, 0, 0, 0, 1, -1, 0, 0, 0, 1, -1, 0, 0, 0, 1, -1, 0, 0, 0, 1, -1]]) hd (by decide +kernel)
  | 4, _ => exact nB_of z Y 5 4 cyE5 (.q [[], [-1, 1, 0, 0, -1, 0, 1, 0, -1, 0, 0, 1, -1], [0, 0, 0, 0, 1, -1, 0, 0, 1, 0, -1, 0, 2, -1, 0, -1, 2, 0, -1, 0, 1, 0, 0, -1, 1], [0, 0, 0, 0, 0, 0, 0, 0, 0, 0, 0, 0, -1, 1, 0, 0, -1, 0, 1, 0, -2, 1, 0, 1, -2, 0, 1, 0, -1, 0, 0, 1, -1], [0, 0, 0, 0, 0, 0, 0, 0, 0, 0, 0, 0, 0, 0, 0, 0, 0, 0, 0, 0, 0, 0, 0, 0, 1, -1, 0, 0, 1, 0, -1, 0, 1, 0, 0, -1, 1], [1, -1, 0, 0, 0, 1, -1, 0, 0, 0, 1, -1, 0, 0, 0, 1, -1, 0, 0, 0, 1, -1, 0, 0, 0, 1, -1, 0, 0, 0, 1, -1, 0, 0, 0, 1, -1]]) hd (by decide +kernel)
-- The norm of a big vector over roots of unity is Frobenius. No program.
theorem Rg.p_mul {R : Type} (K : Rg R) (x : R) (i j : Nat) : K.p (K.p x i) j = K.p x (i * j) := by
  induction j with
  | zero => rfl
  | succ j ih => rw [p, ih, Nat.mul_succ, p_add]
theorem Rg.p_one {R : Type} (K : Rg R) (j : Nat) : K.p (K.c 1) j = K.c 1 := by
  induction j with
  | zero => rfl
  | succ j ih => rw [p, ih, K.mI]
theorem Rg.p_period {R : Type} (K : Rg R) {z : R} {n : Nat} (h : K.p z n = K.c 1) (k j : Nat) : K.p (K.p z j) k = K.p (K.p z (k % n)) j := by
  rw [p_mul, p_mul]
  have e : j * k = n * (k / n * j) + k % n * j := by
    have := Nat.div_add_mod k n
    calc j * k = k * j := Nat.mul_comm _ _
      _ = (n * (k / n) + k % n) * j := by rw [this]
      _ = _ := by rw [Nat.add_mul, Nat.mul_assoc]
  rw [e, p_add, ← p_mul, h, p_one, mIl]
theorem Rg.c_pow {R : Type} (K : Rg R) (x : Int) (e : Nat) : K.p (K.c x) e = K.c (x ^ e) := by
  induction e with
  | zero => rw [Int.pow_zero]; rfl
  | succ e ih => rw [p, ih, ← K.cM, Int.pow_succ]
theorem pow_mul_pow {R : Type} {K : Rg R} (u v : PS K) : ∀ e : Nat, u ^ e * v ^ e = (u * v) ^ e
  | 0 => PS.mul_one (1 : PS K)
  | e + 1 => by rw [PS.pow_succ, PS.pow_succ, PS.pow_succ, ← pow_mul_pow u v e, PS.m4]
theorem one_pow' {R : Type} {K : Rg R} : ∀ e : Nat, (1 : PS K) ^ e = 1
  | 0 => rfl
  | e + 1 => by rw [PS.pow_succ, one_pow' e, PS.mul_one]
/-- z is a root of unity of order n. -/
structure Root {R : Type} (K : Rg R) (z : R) (n : Nat) : Prop where
  pos : 0 < n
  pw : K.p z n = K.c 1
  hB : ∀ (Y : PS K) (r : Nat), r < n → nB ((PS.mo K 0 z) ^ r) Y n = (1 - Y ^ (n / Nat.gcd n r)) ^ Nat.gcd n r
theorem nrm_E {R : Type} {K : Rg R} {z : R} {n : Nat} (h : Root K z n) (k : Nat) (x : R) : ∀ j, PS.nrm z ((1 : PS K) - PS.mo K k x) j = nB ((PS.mo K 0 z) ^ (k % n)) (PS.mo K k x) j
  | 0 => rfl
  | j + 1 => by
    rw [PS.nrm, nB, nrm_E h k x j, PS.tw_sub, PS.tw_one, PS.tw_mo, K.p_period h.pw, PS.mo_pow, PS.mo_pow, Nat.zero_mul, Nat.zero_mul]
theorem li_gS {R : Type} {K : Rg R} (x : Int) {k : Nat} (hk : 0 < k) : PS.li K (gS x k) * ((1 : PS K) - PS.mo K k (K.c x)) = 1 := by
  have e : PS.li K (gS x k) * ((1 : PS K) - PS.mo K k (K.c x)) = PS.li K (gS x k) - PS.mo K k (K.c x) * PS.li K (gS x k) := PS.mul_1sub _ _
  rw [e]
  refine PS.ext fun i => ?_
  rw [PS.sub_at, PS.mo_mul, PS.one_at]
  show K.a (K.c (gS x k i)) (K.m (K.c (-1)) (if k ≤ i then K.m (K.c x) (K.c (gS x k (i - k))) else K.c 0)) = _
  by_cases h : k ≤ i
  · rw [if_pos h, if_neg (by omega), ← K.cM, ← K.cM, ← K.cA]
    congr 1
    have h1 : (i - k) % k = i % k := by rw [← Nat.mod_eq_sub_mod h]
    have h2 : i / k = (i - k) / k + 1 := by rw [Nat.div_eq_sub_div hk h]
    unfold gS
    rw [h1]
    split
    · rw [h2, Int.pow_succ]; grind
    · omega
  · rw [if_neg h, K.mZ, K.aZ]
    by_cases h0 : i = 0
    · subst h0; rw [if_pos rfl, gS_zero]
    · rw [if_neg h0, gS_low x (by omega) (by omega)]
theorem nrm_gS {R : Type} {K : Rg R} {z : R} {n : Nat} (h : Root K z n) (x : Int) {k : Nat} (hk : 0 < k) :
    PS.nrm z (PS.li K (gS x k)) n = PS.sp n (PS.li K (pwF (gS (x ^ (n / Nat.gcd n k)) (k / Nat.gcd n k)) (Nat.gcd n k))) := by
  have hn := h.pos
  have hA : PS.nrm z (PS.li K (gS x k)) n * PS.nrm z ((1 : PS K) - PS.mo K k (K.c x)) n = 1 := by rw [← PS.nrm_mul, li_gS x hk, PS.nrm_one]
  have hg : Nat.gcd n (k % n) = Nat.gcd n k := by rw [Nat.gcd_comm, ← Nat.gcd_rec]
  obtain ⟨g1, g2, g3, g4, _⟩ := gcd_split n k hn hk
  have hB : PS.nrm z ((1 : PS K) - PS.mo K k (K.c x)) n = ((1 : PS K) - PS.mo K (n * (k / Nat.gcd n k)) (K.c (x ^ (n / Nat.gcd n k)))) ^ Nat.gcd n k := by
    rw [nrm_E h, h.hB _ _ (Nat.mod_lt _ hn), hg, PS.mo_pow, K.c_pow]
    congr 3
    have e1 : k * (n / Nat.gcd n k) * Nat.gcd n k = n * (k / Nat.gcd n k) * Nat.gcd n k := by
      rw [Nat.mul_assoc, g4, Nat.mul_assoc, g3, Nat.mul_comm]
    exact Nat.eq_of_mul_eq_mul_right g1 e1
  have hC : PS.sp n (PS.li K (gS (x ^ (n / Nat.gcd n k)) (k / Nat.gcd n k))) * ((1 : PS K) - PS.mo K (n * (k / Nat.gcd n k)) (K.c (x ^ (n / Nat.gcd n k)))) = 1 := by
    rw [← PS.sp_mo hn, ← PS.sp_one (K := K) hn, ← PS.sp_sub, PS.sp_one (K := K) hn, ← PS.sp_mul hn, li_gS _ g2, PS.sp_one hn]
  rw [PS.li_pow, PS.sp_pow hn]
  have hD : PS.sp n (PS.li K (gS (x ^ (n / Nat.gcd n k)) (k / Nat.gcd n k))) ^ Nat.gcd n k * PS.nrm z ((1 : PS K) - PS.mo K k (K.c x)) n = 1 := by
    rw [hB, pow_mul_pow, hC, one_pow']
  generalize PS.nrm z (PS.li K (gS x k)) n = A at *
  generalize PS.nrm z ((1 : PS K) - PS.mo K k (K.c x)) n = B at *
  generalize PS.sp n (PS.li K (gS (x ^ (n / Nat.gcd n k)) (k / Nat.gcd n k))) ^ Nat.gcd n k = C at *
  have e1 : A = A * (C * B) := by rw [hD]; exact (PS.mul_one A).symm
  have e2 : A * (C * B) = C * (A * B) := PS.mL A C B
  rw [e1, e2, hA]
  exact PS.mul_one C
/-- The same up to a degree. -/
def PS.eqd {R : Type} {K : Rg R} (d : Nat) (f g : PS K) : Prop := ∀ i, i ≤ d → f i = g i
theorem PS.eqd.mul {R : Type} {K : Rg R} {d : Nat} {f f' g g' : PS K} (h1 : PS.eqd d f f') (h2 : PS.eqd d g g') : PS.eqd d (f * g) (f' * g') := fun n hn => by
  rw [PS.mul_at, PS.mul_at]
  exact K.s_congr fun i hi => by rw [h1 i (by omega), h2 (n - i) (by omega)]
theorem PS.eqd.tw {R : Type} {K : Rg R} {d : Nat} {f f' : PS K} (h : PS.eqd d f f') (w : R) : PS.eqd d (PS.tw w f) (PS.tw w f') := fun n hn => by
  show K.m _ (f n) = K.m _ (f' n)
  rw [h n hn]
theorem PS.eqd.nrm {R : Type} {K : Rg R} {d : Nat} {f f' : PS K} (h : PS.eqd d f f') (z : R) : ∀ n, PS.eqd d (PS.nrm z f n) (PS.nrm z f' n)
  | 0 => fun _ _ => rfl
  | n + 1 => (PS.eqd.nrm h z n).mul (h.tw _)
theorem PS.eqd.rfl' {R : Type} {K : Rg R} {d : Nat} {f : PS K} : PS.eqd d f f := fun _ _ => rfl
theorem pwF_low {y : Int} {q : Nat} : ∀ (e : Nat) {j : Nat}, j < q → pwF (gS y q) e j = oneF j
  | 0, _, _ => rfl
  | e + 1, j, hj => by
    rw [pwF, ← cv_one_left oneF]
    refine sm_congr fun i hi => ?_
    rw [pwF_low e (by omega)]
    congr 1
    by_cases h0 : j - i = 0
    · rw [h0, gS_zero]; rfl
    · rw [gS_low y (by omega) (by omega), oneF, if_neg h0]
theorem nrm_oZ {R : Type} {K : Rg R} {z : R} {n : Nat} (h : Root K z n) (x : Nat → Int) (D : Nat) : ∀ c, PS.eqd D (PS.nrm z (PS.li K (oZ x c)) n) (PS.sp n (PS.li K (fZ n (D / n) x c)))
  | 0 => by
    rw [oZ, fZ, PS.li_one, PS.nrm_one, PS.sp_one h.pos]
    exact PS.eqd.rfl'
  | c + 1 => by
    have ih := nrm_oZ h x D c
    rw [oZ, fZ, PS.li_mul, PS.nrm_mul, nrm_gS h _ (by omega)]
    split
    · rw [PS.li_mul, PS.sp_mul h.pos]
      exact ih.mul PS.eqd.rfl'
    · rename_i hlt
      have e := PS.mul_one (PS.sp n (PS.li K (fZ n (D / n) x c)))
      rw [← e]
      refine ih.mul fun i hi => ?_
      rw [← PS.sp_one (K := K) h.pos]
      show (if i % n = 0 then K.c _ else K.c 0) = if i % n = 0 then (1 : PS K) (i / n) else K.c 0
      split
      · have : i / n ≤ D / n := Nat.div_le_div_right hi
        rw [pwF_low _ (by omega), PS.one_at]
        unfold oneF
        split <;> rfl
      · rfl
/-- Numbers modulo m in a ring where m is 0. -/
theorem Rg.c_mod {R : Type} (K : Rg R) {m : Int} (h : K.c m = K.c 0) (x : Int) : K.c (x % m) = K.c x := by
  have e := Int.emod_add_mul_ediv x m
  rw [← e, K.cA, K.cM, h, K.mZl, K.aZ]
  rw [e]
theorem Rg.c_congr {R : Type} (K : Rg R) {m : Int} (h : K.c m = K.c 0) {x y : Int} (e : x % m = y % m) : K.c x = K.c y := by
  rw [← K.c_mod h x, ← K.c_mod h y, e]
/-- The Frobenius of a big vector, by the norm. -/
theorem nrm_fL {R : Type} {K : Rg R} {z : R} {n : Nat} (h : Root K z n) {m : Int} (hm : 1 < m) (hK : K.c m = K.c 0) {d : Nat} {u : List Int} (hu : numL m d u) (h0 : at' u 0 = 1) :
    PS.eqd d (PS.nrm z (PS.li K (at' u)) n) (PS.sp n (PS.li K (at' (fL m n (d / n) (cL m u d) d)))) := by
  obtain ⟨G, hG⟩ := Rep.of hu h0
  obtain ⟨hu', f, f0, f1, f2⟩ := hG
  obtain ⟨x, hx⟩ := oZ_of f f0 d
  have hc : ∀ i, i < d → at' (cL m u d) i % m = x i % m := oZ_inj ((cL_back hm hu' h0).symm.trans (f1.trans fun k hk => by rw [hx k hk]))
  have h1 : PS.eqd d (PS.li K (at' u)) (PS.li K (oZ x d)) := fun i hi => by
    show K.c _ = K.c _
    exact K.c_congr hK (by rw [f1 i hi, hx i hi])
  have h2 := nrm_oZ h x d d
  have h3 := eqm_fZ (m := m) (N := n) (d2 := d / n) (x := cL m u d) (x' := x) (c := d) hc
  intro i hi
  rw [h1.nrm z n i hi, h2 i hi]
  show (if i % n = 0 then K.c _ else K.c 0) = if i % n = 0 then K.c _ else K.c 0
  split
  · exact K.c_congr hK (h3 (i / n) (Nat.div_le_div_right hi)).symm
  · rfl
-- Rings with a root of unity. No program.
/-- Congruence modulo m. -/
def Rg.md {R : Type} (K : Rg R) (m : Int) : Setoid R where
  r x y := ∃ w, x = K.a y (K.m (K.c m) w)
  iseqv := {
    refl := fun x => ⟨K.c 0, by rw [K.mZ, K.aZ]⟩
    symm := fun {x y} ⟨w, h⟩ => ⟨K.m (K.c (-1)) w, by
      have e : K.a (K.a y (K.m (K.c m) w)) (K.m (K.c m) (K.m (K.c (-1)) w)) = y := by
        rw [K.aA, ← K.mD, show K.a w (K.m (K.c (-1)) w) = K.c 0 by
          have : K.a (K.m (K.c 1) w) (K.m (K.c (-1)) w) = K.m (K.c (1 + -1)) w := by rw [K.cA, K.mDr]
          rw [K.mIl] at this
          rw [this, show (1 + -1 : Int) = 0 from rfl, K.mZl], K.mZ, K.aZ]
      rw [h, e]⟩
    trans := fun {x y z} ⟨w, h⟩ ⟨v, h2⟩ => ⟨K.a v w, by rw [h, h2, K.aA, ← K.mD]⟩ }
def Rg.quo {R : Type} (K : Rg R) (m : Int) : Rg (Quotient (K.md m)) where
  a := Quotient.lift₂ (fun x y => Quotient.mk (K.md m) (K.a x y)) (fun x y x' y' h1 h3 => by
    obtain ⟨w, h⟩ := h1
    obtain ⟨v, h2⟩ := h3
    exact Quotient.sound (show (K.md m).r _ _ from ⟨K.a w v, by rw [h, h2, K.a4, ← K.mD]⟩))
  m := Quotient.lift₂ (fun x y => Quotient.mk (K.md m) (K.m x y)) (fun x y x' y' h1 h3 => by
    obtain ⟨w, h⟩ := h1
    obtain ⟨v, h2⟩ := h3
    refine Quotient.sound (show (K.md m).r _ _ from ⟨K.a (K.m x' v) (K.a (K.m w y') (K.m (K.m (K.c m) w) v)), ?_⟩)
    rw [h, h2, K.mD, K.mDr, K.mDr, K.mD, K.mD, K.aA]
    rw [show K.m (K.m (K.c m) w) y' = K.m (K.c m) (K.m w y') by ac_rfl, show K.m x' (K.m (K.c m) v) = K.m (K.c m) (K.m x' v) by ac_rfl, show K.m (K.m (K.c m) w) (K.m (K.c m) v) = K.m (K.c m) (K.m (K.m (K.c m) w) v) by ac_rfl]
    congr 1
    ac_rfl)
  c i := Quotient.mk _ (K.c i)
  aC := by rintro ⟨x⟩ ⟨y⟩; exact congrArg (Quotient.mk _) (K.aC x y)
  aA := by rintro ⟨x⟩ ⟨y⟩ ⟨z⟩; exact congrArg (Quotient.mk _) (K.aA x y z)
  aZ := by rintro ⟨x⟩; exact congrArg (Quotient.mk _) (K.aZ x)
  mC := by rintro ⟨x⟩ ⟨y⟩; exact congrArg (Quotient.mk _) (K.mC x y)
  mA := by rintro ⟨x⟩ ⟨y⟩ ⟨z⟩; exact congrArg (Quotient.mk _) (K.mA x y z)
  mI := by rintro ⟨x⟩; exact congrArg (Quotient.mk _) (K.mI x)
  mZ := by rintro ⟨x⟩; exact congrArg (Quotient.mk _) (K.mZ x)
  mD := by rintro ⟨x⟩ ⟨y⟩ ⟨z⟩; exact congrArg (Quotient.mk _) (K.mD x y z)
  cA i j := congrArg (Quotient.mk _) (K.cA i j)
  cM i j := congrArg (Quotient.mk _) (K.cM i j)
theorem Rg.quo_s {R : Type} (K : Rg R) (m : Int) (f : Nat → R) : ∀ n, (K.quo m).s n (fun i => Quotient.mk _ (f i)) = Quotient.mk _ (K.s n f)
  | 0 => rfl
  | n + 1 => by rw [s, quo_s K m f n]; rfl
theorem Rg.quo_p {R : Type} (K : Rg R) (m : Int) (z : R) : ∀ n, (K.quo m).p (Quotient.mk _ z) n = Quotient.mk _ (K.p z n)
  | 0 => rfl
  | n + 1 => by rw [p, quo_p K m z n]; rfl
/-- The value of a combination of powers. -/
def wv {R : Type} (K : Rg R) (z : R) (k : Nat) (l : List Int) : R := K.s k (fun i => K.m (K.c (at' l i)) (K.p z i))
theorem wv_quo {R : Type} (K : Rg R) (m : Int) (z : R) (k : Nat) (l : List Int) : wv (K.quo m) (Quotient.mk _ z) k l = Quotient.mk _ (wv K z k l) := by
  rw [wv, wv, ← Rg.quo_s]
  exact Rg.s_congr _ fun i _ => by rw [Rg.quo_p]; rfl
/-- Pairs: x + y z with z² = p z + q. -/
def rg2 (p q : Int) : Rg (Int × Int) where
  a x y := (x.1 + y.1, x.2 + y.2)
  m x y := (x.1 * y.1 + q * (x.2 * y.2), x.1 * y.2 + x.2 * y.1 + p * (x.2 * y.2))
  c i := (i, 0)
  aC x y := by ext <;> grind
  aA x y z := by ext <;> grind
  aZ x := by ext <;> grind
  mC x y := by ext <;> grind
  mA x y z := by ext <;> grind
  mI x := by ext <;> grind
  mZ x := by ext <;> grind
  mD x y z := by ext <;> grind
  cA i j := by ext <;> grind
  cM i j := by ext <;> grind
@[ext] structure Q4 where
  a : Int
  b : Int
  c : Int
  d : Int
/-- Quadruples, with z⁴ = -1 - z - z² - z³. -/
def rg4 : Rg Q4 where
  a x y := ⟨x.a + y.a, x.b + y.b, x.c + y.c, x.d + y.d⟩
  m x y := ⟨x.a * y.a - (x.b * y.d + x.c * y.c + x.d * y.b) + (x.c * y.d + x.d * y.c),
    x.a * y.b + x.b * y.a - (x.b * y.d + x.c * y.c + x.d * y.b) + x.d * y.d,
    x.a * y.c + x.b * y.b + x.c * y.a - (x.b * y.d + x.c * y.c + x.d * y.b),
    x.a * y.d + x.b * y.c + x.c * y.b + x.d * y.a - (x.b * y.d + x.c * y.c + x.d * y.b)⟩
  c i := ⟨i, 0, 0, 0⟩
  aC x y := by ext <;> grind
  aA x y z := by ext <;> grind
  aZ x := by ext <;> grind
  mC x y := by ext <;> grind
  mA x y z := by ext <;> grind
  mI x := by ext <;> grind
  mZ x := by ext <;> grind
  mD x y z := by ext <;> grind
  cA i j := by ext <;> grind
  cM i j := by ext <;> grind
/-- The rule of a root of unity. -/
def ruL (n : Nat) : List Int := if n = 2 then [-1] else if n = 3 then [-1, -1] else if n = 4 then [-1, 0] else [-1, -1, -1, -1]
/-- What a ring with a root of unity gives. -/
structure RootM {R : Type} (K : Rg R) (z : R) (n : Nat) (m : Int) : Prop where
  root : Root K z n
  hm : K.c m = K.c 0
  rule : K.p z (ruL n).length = wv K z (ruL n).length (ruL n)
  real : ∀ l c, wv K z (ruL n).length l = K.c c → at' l 0 % m = c % m
theorem quo_zero {R : Type} (K : Rg R) (m : Int) : (K.quo m).c m = (K.quo m).c 0 := Quotient.sound (show (K.md m).r _ _ from ⟨K.c 1, by rw [K.mI, K.aC, K.aZ]⟩)
theorem mo0 {R : Type} {K : Rg R} (i : Int) : PS.mo K 0 (K.c i) = (K.ps.c i : PS K) := rfl
theorem mo_neg {R : Type} {K : Rg R} : PS.mo K 0 (K.c (-1)) = -1 := by
  have e : (-1 : PS K) = 0 - 1 := PS.zero_sub1
  rw [e]
  refine PS.ext fun i => ?_
  rw [PS.sub_at, PS.one_at]
  show (if i = 0 then K.c (-1) else K.c 0) = K.a (if i = 0 then K.c 0 else K.c 0) _
  split
  · rw [K.mI, K.aZl]
  · rw [K.mZ, K.aZ]
theorem rootM2 (m : Int) : RootM (rgZ.quo m) ((rgZ.quo m).c (-1)) 2 m where
  hm := quo_zero _ _
  rule := rfl
  real l c h := by
    rw [show wv (rgZ.quo m) ((rgZ.quo m).c (-1)) (ruL 2).length l = Quotient.mk _ (wv rgZ (-1) 1 l) from wv_quo rgZ m (-1) 1 l] at h
    obtain ⟨w, hw⟩ := Quotient.exact h
    have e1 : wv rgZ (-1) 1 l = at' l 0 := by
      show 0 + at' l 0 * 1 = at' l 0
      omega
    have hw' : at' l 0 = c + m * w := by rw [← e1]; exact hw
    rw [hw', Int.add_mul_emod_self_left]
  root := {
    pos := by omega
    pw := rfl
    hB := fun Y r hr => by
      refine nB2 _ Y ?_ r hr
      exact mo_neg }
theorem PS.mo_add {R : Type} {K : Rg R} (k : Nat) (x y : R) : PS.mo K k (K.a x y) = PS.mo K k x + PS.mo K k y := PS.ext fun i => by
  show (if i = k then K.a x y else K.c 0) = K.a (if i = k then x else K.c 0) (if i = k then y else K.c 0)
  split
  · rfl
  · rw [K.aZ]
theorem PS.mo_negx {R : Type} {K : Rg R} (x : R) : PS.mo K 0 (K.m (K.c (-1)) x) = -1 * PS.mo K 0 x := by
  rw [← mo_neg, PS.mo_mo]
theorem rule_real2 {p q m : Int} {l : List Int} {c : Int} (h : wv ((rg2 p q).quo m) (Quotient.mk _ (0, 1)) 2 l = ((rg2 p q).quo m).c c) : at' l 0 % m = c % m := by
  rw [wv_quo] at h
  obtain ⟨w, hw⟩ := Quotient.exact h
  have e1 : (wv (rg2 p q) (0, 1) 2 l).1 = at' l 0 := by
    show 0 + (at' l 0 * 1 + q * (0 * 0)) + (at' l 1 * (1 * 0 + q * (0 * 1)) + q * (0 * (1 * 1 + 0 * 0 + p * (0 * 1)))) = at' l 0
    grind
  have hw' : at' l 0 = c + (m * w.1 + q * (0 * w.2)) := by rw [← e1, hw]; rfl
  rw [hw', show c + (m * w.1 + q * (0 * w.2)) = c + m * w.1 by grind, Int.add_mul_emod_self_left]
theorem rootM3 (m : Int) : RootM ((rg2 (-1) (-1)).quo m) (Quotient.mk _ (0, 1)) 3 m where
  hm := quo_zero _ _
  rule := by
    show Rg.p _ _ 2 = wv _ _ 2 (ruL 3)
    rw [wv_quo, Rg.quo_p]; rfl
  real l c h := rule_real2 h
  root := {
    pos := by omega
    pw := by rw [Rg.quo_p]; rfl
    hB := fun Y r hr => by
      refine nB3 _ Y ?_ r hr
      obtain ⟨K, hK⟩ : ∃ K, K = (rg2 (-1) (-1)).quo m := ⟨_, rfl⟩
      have e : ((rg2 (-1) (-1)).quo m).p (Quotient.mk _ (0, 1)) 2 = ((rg2 (-1) (-1)).quo m).a (((rg2 (-1) (-1)).quo m).c (-1)) (((rg2 (-1) (-1)).quo m).m (((rg2 (-1) (-1)).quo m).c (-1)) (Quotient.mk _ (0, 1))) := by
        rw [Rg.quo_p]; rfl
      rw [PS.mo_pow, Nat.zero_mul, e, PS.mo_add, mo_neg, PS.mo_negx]
      exact PS.add_negx _ _ }
theorem rootM4 (m : Int) : RootM ((rg2 0 (-1)).quo m) (Quotient.mk _ (0, 1)) 4 m where
  hm := quo_zero _ _
  rule := by
    show Rg.p _ _ 2 = wv _ _ 2 (ruL 4)
    rw [wv_quo, Rg.quo_p]; rfl
  real l c h := rule_real2 h
  root := {
    pos := by omega
    pw := by rw [Rg.quo_p]; rfl
    hB := fun Y r hr => by
      refine nB4 _ Y ?_ r hr
      have e : ((rg2 0 (-1)).quo m).p (Quotient.mk _ (0, 1)) 2 = ((rg2 0 (-1)).quo m).c (-1) := by
        rw [Rg.quo_p]; rfl
      rw [PS.mo_pow, Nat.zero_mul, e, mo_neg] }
theorem rootM5 (m : Int) : RootM (rg4.quo m) (Quotient.mk _ ⟨0, 1, 0, 0⟩) 5 m where
  hm := quo_zero _ _
  rule := by
    show Rg.p _ _ 4 = wv _ _ 4 (ruL 5)
    rw [wv_quo, Rg.quo_p]; rfl
  real l c h := by
    have h : wv (rg4.quo m) (Quotient.mk _ ⟨0, 1, 0, 0⟩) 4 l = (rg4.quo m).c c := h
    rw [wv_quo] at h
    obtain ⟨w, hw⟩ := Quotient.exact h
    have e1 : (wv rg4 ⟨0, 1, 0, 0⟩ 4 l).a = at' l 0 := by
      have p1 : rg4.p ⟨0, 1, 0, 0⟩ 1 = ⟨0, 1, 0, 0⟩ := rfl
      have p2 : rg4.p ⟨0, 1, 0, 0⟩ 2 = ⟨0, 0, 1, 0⟩ := rfl
      have p3 : rg4.p ⟨0, 1, 0, 0⟩ 3 = ⟨0, 0, 0, 1⟩ := rfl
      have p0 : rg4.p ⟨0, 1, 0, 0⟩ 0 = ⟨1, 0, 0, 0⟩ := rfl
      rw [wv, Rg.s, Rg.s, Rg.s, Rg.s, Rg.s, p0, p1, p2, p3]
      simp only [rg4]
      grind
    have e2 : (rg4.a (rg4.c c) (rg4.m (rg4.c m) w)).a = c + m * w.a := by
      simp only [rg4]
      grind
    have hw' : at' l 0 = c + m * w.a := by rw [← e1, hw]; exact e2
    rw [hw', Int.add_mul_emod_self_left]
  root := {
    pos := by omega
    pw := by rw [Rg.quo_p]; rfl
    hB := fun Y r hr => by
      refine nB5 _ Y ?_ r hr
      have e : (rg4.quo m).p (Quotient.mk _ ⟨0, 1, 0, 0⟩) 4 = (rg4.quo m).a ((rg4.quo m).a ((rg4.quo m).c (-1)) ((rg4.quo m).m ((rg4.quo m).c (-1)) (Quotient.mk _ ⟨0, 1, 0, 0⟩))) ((rg4.quo m).a ((rg4.quo m).m ((rg4.quo m).c (-1)) ((rg4.quo m).p (Quotient.mk _ ⟨0, 1, 0, 0⟩) 2)) ((rg4.quo m).m ((rg4.quo m).c (-1)) ((rg4.quo m).p (Quotient.mk _ ⟨0, 1, 0, 0⟩) 3))) := by
        rw [Rg.quo_p, Rg.quo_p, Rg.quo_p]; rfl
      rw [PS.mo_pow, PS.mo_pow, PS.mo_pow, Nat.zero_mul, e, PS.mo_add, PS.mo_add, PS.mo_add, mo_neg, PS.mo_negx, PS.mo_negx, PS.mo_negx, ← PS.add_assoc, PS.add_negx, PS.add_negx, PS.add_negx] }
/-- There is a ring with a root of unity. -/
theorem root_ex {n : Nat} (h1 : 2 ≤ n) (h2 : n ≤ 5) (m : Int) : ∃ (R : Type) (K : Rg R) (z : R), RootM K z n m := by
  rcases (show n = 2 ∨ n = 3 ∨ n = 4 ∨ n = 5 by omega) with rfl | rfl | rfl | rfl
  · exact ⟨_, _, _, rootM2 m⟩
  · exact ⟨_, _, _, rootM3 m⟩
  · exact ⟨_, _, _, rootM4 m⟩
  · exact ⟨_, _, _, rootM5 m⟩
-- Combinations of powers of a root of unity, as the program holds them. No program.
/-- a + c b. -/
def plW (m : Int) (k : Nat) (a b : List Int) (c : Int) : List Int := tab k (fun i => (at' a i + c * at' b i) % m)
/-- A number. -/
def nmW (k : Nat) (c : Int) : List Int := tab k (fun i => if i = 0 then c else 0)
/-- a, moved on by one power. -/
def shW (k : Nat) (a : List Int) : List Int := tab k (fun i => if i = 0 then 0 else at' a (i - 1))
/-- a times the root. -/
def tuW (m : Int) (k : Nat) (r a : List Int) : List Int := plW m k (shW k a) r (at' a (k - 1))
/-- The second factor times the powers of the root. -/
def tuN (m : Int) (k : Nat) (r b : List Int) : Nat → List Int
  | 0 => b
  | i + 1 => tuW m k r (tuN m k r b i)
/-- The first terms of a product. -/
def tmN (m : Int) (k : Nat) (r a b : List Int) : Nat → List Int
  | 0 => nmW k 0
  | i + 1 => plW m k (tmN m k r a b i) (tuN m k r b i) (at' a i)
def tmW (m : Int) (k : Nat) (r a b : List Int) : List Int := tmN m k r a b k
/-- Numbers below m. -/
def okW (m : Int) (k : Nat) (l : List Int) : Prop := l.length = k ∧ ∀ x ∈ l, 0 ≤ x ∧ x < m
theorem plW_ok {m : Int} (hm : 0 < m) (k : Nat) (a b : List Int) (c : Int) : okW m k (plW m k a b c) := ⟨tab_length _ _, fun x hx => by
  obtain ⟨i, _, rfl⟩ := mem_tab.1 hx
  exact ⟨Int.emod_nonneg _ (by omega), Int.emod_lt_of_pos _ hm⟩⟩
theorem nmW_ok {m c : Int} (h0 : 0 ≤ c) (hc : c < m) (k : Nat) : okW m k (nmW k c) := ⟨tab_length _ _, fun x hx => by
  obtain ⟨i, _, rfl⟩ := mem_tab.1 hx
  split <;> omega⟩
theorem shW_ok {m : Int} {k : Nat} {a : List Int} (hm : 0 < m) (h : okW m k a) : okW m k (shW k a) := ⟨tab_length _ _, fun x hx => by
  obtain ⟨i, _, rfl⟩ := mem_tab.1 hx
  split
  · omega
  · exact at_bound h.2 hm _⟩
theorem tuW_ok {m : Int} (hm : 0 < m) (k : Nat) (r a : List Int) : okW m k (tuW m k r a) := plW_ok hm _ _ _ _
theorem tuN_ok {m : Int} (hm : 0 < m) {k : Nat} (r : List Int) {b : List Int} (h : okW m k b) : ∀ i, okW m k (tuN m k r b i)
  | 0 => h
  | i + 1 => tuW_ok hm _ _ _
theorem tmN_ok {m : Int} (hm : 0 < m) (k : Nat) (r a b : List Int) : ∀ i, okW m k (tmN m k r a b i)
  | 0 => nmW_ok (by omega) hm k
  | i + 1 => plW_ok hm _ _ _ _
theorem tmW_ok {m : Int} (hm : 0 < m) (k : Nat) (r a b : List Int) : okW m k (tmW m k r a b) := tmN_ok hm _ _ _ _ _
section
variable {R : Type} {K : Rg R} {z : R} {m : Int} {k : Nat}
theorem wv_pl (hm : K.c m = K.c 0) (a b : List Int) (c : Int) : wv K z k (plW m k a b c) = K.a (wv K z k a) (K.m (K.c c) (wv K z k b)) := by
  rw [wv, wv, wv, K.s_mul, ← K.s_add]
  refine K.s_congr fun i hi => ?_
  rw [plW, at_tab hi, K.c_mod hm, K.cA, K.cM, K.mDr, K.mA]
theorem wv_nm (hk : 0 < k) (c : Int) : wv K z k (nmW k c) = K.c c := by
  rw [wv, K.s_one hk fun i hi h0 => by rw [nmW, at_tab hi, if_neg h0, K.mZl], nmW, at_tab hk, if_pos rfl]
  exact K.mI _
theorem wv_sh (hk : 0 < k) (a : List Int) : K.a (wv K z k (shW k a)) (K.m (K.c (at' a (k - 1))) (K.p z k)) = K.m z (wv K z k a) := by
  obtain ⟨j, rfl⟩ : ∃ j, k = j + 1 := ⟨k - 1, by omega⟩
  rw [wv, wv, K.s_mul, K.s_left, shW, at_tab (show 0 < j + 1 by omega), if_pos rfl, K.mZl, K.aZl, show j + 1 - 1 = j by omega]
  have e : ∀ i, K.m z (K.m (K.c (at' a i)) (K.p z i)) = K.m (K.c (at' a i)) (K.p z (i + 1)) := fun i => by
    rw [Rg.p]; ac_rfl
  rw [K.s_congr fun i _ => e i, Rg.s]
  congr 1
  refine K.s_congr fun i hi => ?_
  rw [at_tab (by omega), if_neg (by omega), Nat.add_sub_cancel]
theorem wv_tu (hm : K.c m = K.c 0) (hk : 0 < k) {r : List Int} (hr : K.p z k = wv K z k r) (a : List Int) : wv K z k (tuW m k r a) = K.m z (wv K z k a) := by
  rw [tuW, wv_pl hm, ← hr, wv_sh hk]
theorem wv_tuN (hm : K.c m = K.c 0) (hk : 0 < k) {r : List Int} (hr : K.p z k = wv K z k r) (b : List Int) : ∀ i, wv K z k (tuN m k r b i) = K.m (K.p z i) (wv K z k b)
  | 0 => (K.mIl _).symm
  | i + 1 => by
    rw [tuN, wv_tu hm hk hr, wv_tuN hm hk hr b i, Rg.p]
    ac_rfl
theorem wv_tm (hm : K.c m = K.c 0) (hk : 0 < k) {r : List Int} (hr : K.p z k = wv K z k r) (a b : List Int) : wv K z k (tmW m k r a b) = K.m (wv K z k a) (wv K z k b) := by
  have h : ∀ j, wv K z k (tmN m k r a b j) = K.m (K.s j (fun i => K.m (K.c (at' a i)) (K.p z i))) (wv K z k b) := by
    intro j
    induction j with
    | zero => rw [tmN, wv_nm hk, Rg.s, K.mZl]
    | succ j ih => rw [tmN, wv_pl hm, ih, wv_tuN hm hk hr, Rg.s, K.mDr, K.mA]
  rw [tmW, h]; rfl
end
/-- The coefficient t of a product of two rows, after i rounds. -/
def prC (m : Int) (k : Nat) (r : List Int) (A B : List (List Int)) (t : Nat) : Nat → List Int
  | 0 => nmW k 0
  | i + 1 => if i ≤ t then plW m k (prC m k r A B t i) (tmW m k r (A.getD i []) (B.getD (t - i) [])) 1 else prC m k r A B t i
def tabL (n : Nat) (f : Nat → List Int) : List (List Int) := (List.range n).map f
theorem tabL_length (n : Nat) (f : Nat → List Int) : (tabL n f).length = n := by simp [tabL]
theorem tabL_getD {n i : Nat} {f : Nat → List Int} (h : i < n) : (tabL n f).getD i [] = f i := by
  simp [tabL, List.getD_eq_getElem?_getD, h]
theorem tabL_congr {n : Nat} {f g : Nat → List Int} (h : ∀ i, i < n → f i = g i) : tabL n f = tabL n g :=
  List.map_congr_left fun i hi => h i (List.mem_range.1 hi)
theorem tabL_snoc (n : Nat) (f : Nat → List Int) : tabL n f ++ [f n] = tabL (n + 1) f := by simp [tabL, List.range_succ]
theorem tabL_set {n i : Nat} {f g : Nat → List Int} {x : List Int} (h : ∀ j, j < n → (if j = i then x else f j) = g j) : (tabL n f).set i x = tabL n g := by
  apply List.ext_getElem
  · simp [tabL]
  intro j h1 h2
  rw [List.getElem_set]
  have hj : j < n := by simpa [tabL] using h2
  have := h j hj
  simp only [tabL, List.getElem_map, List.getElem_range]
  rw [← this]
  by_cases e : i = j
  · rw [if_pos e, if_pos e.symm]
  · rw [if_neg e, if_neg (fun h => e h.symm)]
theorem tabL_mem {n : Nat} {f : Nat → List Int} {x : List Int} (h : x ∈ tabL n f) : ∃ i, i < n ∧ x = f i := by
  obtain ⟨i, hi, rfl⟩ := List.mem_map.1 h
  exact ⟨i, List.mem_range.1 hi, rfl⟩
/-- The product of two rows. -/
def prW (m : Int) (k : Nat) (r : List Int) (n : Nat) (A B : List (List Int)) : List (List Int) := tabL n (fun t => prC m k r A B t n)
theorem prC_over {m : Int} {k : Nat} {r : List Int} {A B : List (List Int)} {t i : Nat} (h : t < i) : prC m k r A B t i = prC m k r A B t (t + 1) := by
  induction i with
  | zero => omega
  | succ i ih =>
    by_cases e : i = t
    · rw [e]
    · rw [prC, if_neg (by omega), ih (by omega)]
theorem prC_ok {m : Int} (hm : 0 < m) (k : Nat) (r : List Int) (A B : List (List Int)) (t : Nat) : ∀ i, okW m k (prC m k r A B t i)
  | 0 => nmW_ok (by omega) hm k
  | i + 1 => by
    rw [prC]
    split
    · exact plW_ok hm _ _ _ _
    · exact prC_ok hm k r A B t i
/-- A row as a series. -/
def wS {R : Type} (K : Rg R) (z : R) (k : Nat) (A : List (List Int)) : PS K := fun t => wv K z k (A.getD t [])
theorem wS_pr {R : Type} {K : Rg R} {z : R} {m : Int} {k : Nat} (hm : K.c m = K.c 0) (hk : 0 < k) {r : List Int} (hr : K.p z k = wv K z k r) (d : Nat) (A B : List (List Int)) : PS.eqd d (wS K z k (prW m k r (d + 1) A B)) (wS K z k A * wS K z k B) := fun t ht => by
  have h : ∀ i, i ≤ t + 1 → wv K z k (prC m k r A B t i) = K.s i (fun i => K.m (wv K z k (A.getD i [])) (wv K z k (B.getD (t - i) []))) := by
    intro i
    induction i with
    | zero => intro _; rw [prC, wv_nm hk]; rfl
    | succ i ih =>
      intro hi
      rw [prC, if_pos (by omega), wv_pl hm, ih (by omega), wv_tm hm hk hr, K.mIl]; rfl
  show wv K z k ((prW m k r (d + 1) A B).getD t []) = _
  rw [prW, tabL_getD (by omega), prC_over (by omega), h _ (Nat.le_refl _)]
  rfl
/-- The sum under a law, place by place. -/
def suJ (m : Int) (k : Nat) (r : List Int) (n : Nat) (c : Nat → Int) (P : List (List Int)) (Q : Nat → List (List Int)) (S : Nat → List Int) : Nat → Nat → List Int
  | 0 => S
  | j + 1 => fun t => if c j = 0 then suJ m k r n c P Q S j t else plW m k (suJ m k r n c P Q S j t) ((prW m k r n P (Q j)).getD t []) (c j)
def suI (m : Int) (k : Nat) (r : List Int) (n : Nat) (c : Nat → Nat → Int) (P Q : Nat → List (List Int)) : Nat → Nat → List Int
  | 0 => fun _ => nmW k 0
  | i + 1 => suJ m k r n (c i) (P i) Q (suI m k r n c P Q i) (n - i)
/-- The powers of a row. -/
def pwW (m : Int) (k : Nat) (r : List Int) (n : Nat) (A : List (List Int)) : Nat → List (List Int)
  | 0 => tabL n (fun i => nmW k (if i = 0 then 1 else 0))
  | i + 1 => prW m k r n (pwW m k r n A i) A
def suW (m : Int) (k : Nat) (r : List Int) (n : Nat) (c : Nat → Nat → Int) (A B : List (List Int)) : List (List Int) := tabL n (suI m k r n c (pwW m k r n A) (pwW m k r n B) n)
/-- Rows of n combinations. -/
def okR (m : Int) (k n : Nat) (A : List (List Int)) : Prop := A.length = n ∧ ∀ x ∈ A, okW m k x
theorem okR.tabL {m : Int} {k n : Nat} {f : Nat → List Int} (h : ∀ i, i < n → okW m k (f i)) : okR m k n (tabL n f) := ⟨tabL_length _ _, fun x hx => by
  obtain ⟨i, hi, rfl⟩ := tabL_mem hx
  exact h i hi⟩
theorem okR.at {m : Int} {k n : Nat} {A : List (List Int)} (h : okR m k n A) {i : Nat} (hi : i < n) : okW m k (A.getD i []) := by
  rw [List.getD_eq_getElem?_getD, List.getElem?_eq_getElem (by rw [h.1]; exact hi)]
  exact h.2 _ (List.getElem_mem _)
theorem prW_ok {m : Int} (hm : 0 < m) (k : Nat) (r : List Int) (n : Nat) (A B : List (List Int)) : okR m k n (prW m k r n A B) := .tabL fun t _ => prC_ok hm _ _ _ _ _ _
theorem pwW_ok {m : Int} (hm : 1 < m) (k : Nat) (r : List Int) (n : Nat) (A : List (List Int)) : ∀ i, okR m k n (pwW m k r n A i)
  | 0 => .tabL fun t _ => nmW_ok (by split <;> omega) (by split <;> omega) k
  | i + 1 => prW_ok (by omega) _ _ _ _ _
theorem suJ_ok {m : Int} (hm : 0 < m) {k : Nat} (r : List Int) (n : Nat) (c : Nat → Int) (P : List (List Int)) (Q : Nat → List (List Int)) {S : Nat → List Int} (hS : ∀ t, okW m k (S t)) : ∀ j t, okW m k (suJ m k r n c P Q S j t)
  | 0, t => hS t
  | j + 1, t => by
    rw [suJ]
    split
    · exact suJ_ok hm r n c P Q hS j t
    · exact plW_ok hm _ _ _ _
theorem suI_ok {m : Int} (hm : 0 < m) (k : Nat) (r : List Int) (n : Nat) (c : Nat → Nat → Int) (P Q : Nat → List (List Int)) : ∀ i t, okW m k (suI m k r n c P Q i t)
  | 0, t => nmW_ok (by omega) hm k
  | i + 1, t => suJ_ok hm _ _ _ _ _ (suI_ok hm k r n c P Q i) _ _
theorem suW_ok {m : Int} (hm : 0 < m) (k : Nat) (r : List Int) (n : Nat) (c : Nat → Nat → Int) (A B : List (List Int)) : okR m k n (suW m k r n c A B) := .tabL fun t _ => suI_ok hm _ _ _ _ _ _ _ _
-- The program's Frobenius of a curve of the multiplicative law. No program.
/-- x + y - x y. -/
def mulT (m : Int) (i j : Nat) : Int := if i + j = 1 then 1 else if i = 1 ∧ j = 1 then m - 1 else 0
section
variable {R : Type} {K : Rg R} {z : R} {m : Int} {k : Nat}
theorem wS_at (A : List (List Int)) (t : Nat) : wS K z k A t = wv K z k (A.getD t []) := rfl
theorem wv_suJ (hm : K.c m = K.c 0) (r : List Int) (n : Nat) (c : Nat → Int) (P : List (List Int)) (Q : Nat → List (List Int)) (S : Nat → List Int) (t : Nat) : ∀ j, wv K z k (suJ m k r n c P Q S j t) = K.a (wv K z k (S t)) (K.s j (fun j => K.m (K.c (c j)) (wS K z k (prW m k r n P (Q j)) t)))
  | 0 => (K.aZ _).symm
  | j + 1 => by
    rw [suJ, Rg.s]
    split
    · rename_i h
      rw [wv_suJ hm r n c P Q S t j, h, K.mZl, K.aZ]
    · rw [wv_pl hm, wv_suJ hm r n c P Q S t j, K.aA]; rfl
theorem wv_suI (hm : K.c m = K.c 0) (hk : 0 < k) (r : List Int) (n : Nat) (c : Nat → Nat → Int) (P Q : Nat → List (List Int)) (t : Nat) : ∀ i, wv K z k (suI m k r n c P Q i t) = K.s i (fun i => K.s (n - i) (fun j => K.m (K.c (c i j)) (wS K z k (prW m k r n (P i) (Q j)) t)))
  | 0 => by rw [suI, wv_nm hk]; rfl
  | i + 1 => by rw [suI, wv_suJ hm, wv_suI hm hk r n c P Q t i, Rg.s]
theorem wS_one (hk : 0 < k) (r : List Int) (d : Nat) (A : List (List Int)) : PS.eqd d (wS K z k (pwW m k r (d + 1) A 0)) 1 := fun t ht => by
  rw [wS_at, pwW, tabL_getD (by omega), wv_nm hk, PS.one_at]
  split <;> rfl
theorem wS_pw1 (hm : K.c m = K.c 0) (hk : 0 < k) {r : List Int} (hr : K.p z k = wv K z k r) (d : Nat) (A : List (List Int)) : PS.eqd d (wS K z k (pwW m k r (d + 1) A 1)) (wS K z k A) := fun t ht => by
  rw [pwW, wS_pr hm hk hr d _ _ t ht, ((wS_one (K := K) (z := z) (m := m) hk r d A).mul PS.eqd.rfl') t ht]
  exact congrFun (PS.one_mul (wS K z k A)) t
/-- 1 - the sum is the product of 1 - the summands. -/
theorem wS_su (hm : K.c m = K.c 0) (hk : 0 < k) {r : List Int} (hr : K.p z k = wv K z k r) (d : Nat) (hd : 2 ≤ d) (A B : List (List Int)) :
    PS.eqd d ((1 : PS K) - wS K z k (suW m k r (d + 1) (mulT m) A B)) (((1 : PS K) - wS K z k A) * ((1 : PS K) - wS K z k B)) := fun t ht => by
  have e2 : ((1 : PS K) - wS K z k A) * ((1 : PS K) - wS K z k B) = (1 : PS K) - (wS K z k B + (wS K z k A + -1 * (wS K z k A * wS K z k B))) := PS.two1 _ _
  rw [e2, PS.sub_at, PS.sub_at]
  congr 2
  rw [wS_at, suW, tabL_getD (by omega), wv_suI hm hk]
  have hPr := fun i j => wS_pr (k := k) hm hk hr d (pwW m k r (d + 1) A i) (pwW m k r (d + 1) B j)
  have a0 := wS_one (K := K) (z := z) (m := m) hk r d A
  have b0 := wS_one (K := K) (z := z) (m := m) hk r d B
  have a1 := wS_pw1 hm hk hr d A
  have b1 := wS_pw1 hm hk hr d B
  have f01 : wS K z k (prW m k r (d + 1) (pwW m k r (d + 1) A 0) (pwW m k r (d + 1) B 1)) t = wS K z k B t := by
    rw [hPr 0 1 t ht, (a0.mul b1) t ht]; exact congrFun (PS.one_mul (wS K z k B)) t
  have f10 : wS K z k (prW m k r (d + 1) (pwW m k r (d + 1) A 1) (pwW m k r (d + 1) B 0)) t = wS K z k A t := by
    rw [hPr 1 0 t ht, (a1.mul b0) t ht]; exact congrFun (PS.mul_one (wS K z k A)) t
  have f11 : wS K z k (prW m k r (d + 1) (pwW m k r (d + 1) A 1) (pwW m k r (d + 1) B 1)) t = (wS K z k A * wS K z k B) t := by
    rw [hPr 1 1 t ht, (a1.mul b1) t ht]
  obtain ⟨E, hE⟩ : ∃ E : Nat → Nat → R, ∀ i j, wS K z k (prW m k r (d + 1) (pwW m k r (d + 1) A i) (pwW m k r (d + 1) B j)) t = E i j := ⟨_, fun _ _ => rfl⟩
  rw [hE] at f01 f10 f11
  rw [K.s_congr fun i hi => K.s_congr fun j hj => by rw [hE i j]]
  have r0 : K.s (d + 1 - 0) (fun j => K.m (K.c (mulT m 0 j)) (E 0 j)) = E 0 1 := by
    rw [K.s_one (show 1 < d + 1 - 0 by omega) fun j _ hj => by rw [mulT, if_neg (by omega), if_neg (by omega), K.mZl]]
    exact K.mIl _
  have r1 : K.s (d + 1 - 1) (fun j => K.m (K.c (mulT m 1 j)) (E 1 j)) = K.a (E 1 0) (K.m (K.c (m - 1)) (E 1 1)) := by
    rw [K.s_tail (show 2 ≤ d + 1 - 1 by omega) fun j h1 _ => by rw [mulT, if_neg (by omega), if_neg (by omega), K.mZl]]
    rw [Rg.s, Rg.s, Rg.s, K.aZl]
    congr 1
    exact K.mIl _
  have r2 : ∀ i, 2 ≤ i → K.s (d + 1 - i) (fun j => K.m (K.c (mulT m i j)) (E i j)) = K.c 0 := fun i hi =>
    K.s_zero fun j _ => by rw [mulT, if_neg (by omega), if_neg (by omega), K.mZl]
  rw [K.s_tail (show 2 ≤ d + 1 by omega) fun i h1 _ => r2 i h1, Rg.s, Rg.s, Rg.s, K.aZl, r0, r1, f01, f10, f11]
  have em : K.c (m - 1) = K.c (-1) := K.c_congr hm (by rw [show m - 1 = -1 + m * 1 by omega, Int.add_mul_emod_self_left])
  have e3 : (-1 * (wS K z k A * wS K z k B)) t = K.m (K.c (-1)) ((wS K z k A * wS K z k B) t) := by
    rw [← mo_neg, PS.mo_mul, if_pos (Nat.zero_le _), Nat.sub_zero]
  rw [em]
  show _ = K.a (wS K z k B t) (K.a (wS K z k A t) ((-1 * (wS K z k A * wS K z k B)) t))
  rw [e3]
end
/-- The powers of the root. -/
def rtN (m : Int) (k : Nat) (r : List Int) : Nat → List Int
  | 0 => nmW k 1
  | j + 1 => tuW m k r (rtN m k r j)
/-- The powers of a power of the root. -/
def scN (m : Int) (k : Nat) (r : List Int) (j : Nat) : Nat → List Int
  | 0 => nmW k 1
  | i + 1 => tmW m k r (scN m k r j i) (rtN m k r j)
/-- The curve at a power of the root. -/
def cuN (m : Int) (k : Nat) (r a : List Int) (n : Nat) (j : Nat) : List (List Int) := tabL n (fun i => tmW m k r (scN m k r j i) (nmW k (at' a i)))
/-- The sums of the curves. -/
def toN (m : Int) (k : Nat) (r a : List Int) (n : Nat) (c : Nat → Nat → Int) : Nat → List (List Int)
  | 0 => tabL n (fun _ => nmW k 0)
  | j + 1 => suW m k r n c (toN m k r a n c j) (cuN m k r a n j)
theorem rtN_ok {m : Int} (hm : 1 < m) (k : Nat) (r : List Int) : ∀ j, okW m k (rtN m k r j)
  | 0 => nmW_ok (by omega) (by omega) k
  | j + 1 => tuW_ok (by omega) _ _ _
theorem scN_ok {m : Int} (hm : 1 < m) (k : Nat) (r : List Int) (j : Nat) : ∀ i, okW m k (scN m k r j i)
  | 0 => nmW_ok (by omega) (by omega) k
  | i + 1 => tmW_ok (by omega) _ _ _ _
theorem cuN_ok {m : Int} (hm : 0 < m) (k : Nat) (r a : List Int) (n j : Nat) : okR m k n (cuN m k r a n j) := .tabL fun i _ => tmW_ok hm _ _ _ _
theorem toN_ok {m : Int} (hm : 0 < m) (k : Nat) (r a : List Int) (n : Nat) (c : Nat → Nat → Int) : ∀ j, okR m k n (toN m k r a n c j)
  | 0 => .tabL fun i _ => nmW_ok (by omega) hm k
  | j + 1 => suW_ok hm _ _ _ _ _ _
/-- What the program's Frobenius of n makes of a curve. -/
def frW (m : Int) (n d : Nat) (c : Nat → Nat → Int) (a : List Int) : List Int := tab (d / n + 1) (fun i => at' ((toN m (ruL n).length (ruL n) a (d + 1) c n).getD (i * n) []) 0)
theorem ruL_pos (n : Nat) : 0 < (ruL n).length := by
  unfold ruL
  split
  · simp
  · split
    · simp
    · split <;> simp
/-- It is Frobenius of big vectors. -/
theorem frW_big {m : Int} (hm : 1 < m) {n d : Nat} (h1 : 2 ≤ n) (h2 : n ≤ 5) (hd : n ≤ d) {a u : List Int} (ha0 : at' a 0 = 0) (hu : numL m d u) (hu0 : at' u 0 = 1) (hau : ∀ i, 1 ≤ i → i ≤ d → (at' a i + at' u i) % m = 0) {i : Nat} (hi1 : 1 ≤ i) (hi : i ≤ d / n) :
    (at' (frW m n d (mulT m) a) i + at' (fL m n (d / n) (cL m u d) d) i) % m = 0 := by
  obtain ⟨R, K, z, hR⟩ := root_ex h1 h2 m
  have hK := hR.hm
  have hk := ruL_pos n
  have hr := hR.rule
  generalize hkk : (ruL n).length = k at *
  have vrt : ∀ j, wv K z k (rtN m k (ruL n) j) = K.p z j := by
    intro j
    induction j with
    | zero => rw [rtN, wv_nm hk]; rfl
    | succ j ih => rw [rtN, wv_tu hK hk hr, ih, Rg.p, K.mC]
  have vsc : ∀ j i, wv K z k (scN m k (ruL n) j i) = K.p (K.p z j) i := by
    intro j i
    induction i with
    | zero => rw [scN, wv_nm hk]; rfl
    | succ i ih => rw [scN, wv_tm hK hk hr, ih, vrt, Rg.p]
  have vcu : ∀ j, PS.eqd d (wS K z k (cuN m k (ruL n) a (d + 1) j)) (PS.tw (K.p z j) (PS.li K (at' a))) := fun j i hi => by
    rw [wS_at, cuN, tabL_getD (by omega), wv_tm hK hk hr, vsc, wv_nm hk]; rfl
  have vto : ∀ j, PS.eqd d ((1 : PS K) - wS K z k (toN m k (ruL n) a (d + 1) (mulT m) j)) (PS.nrm z ((1 : PS K) - PS.li K (at' a)) j) := by
    intro j
    induction j with
    | zero =>
      intro t ht
      rw [PS.nrm, PS.sub_at, wS_at, toN, tabL_getD (by omega), wv_nm hk, K.mZ, K.aZ]
    | succ j ih =>
      intro t ht
      rw [toN, wS_su hK hk hr d (by omega) _ _ t ht, PS.nrm, PS.tw_sub, PS.tw_one]
      refine (ih.mul ?_) t ht
      intro s hs
      rw [PS.sub_at, PS.sub_at, vcu j s hs]
  have hus : PS.eqd d ((1 : PS K) - PS.li K (at' a)) (PS.li K (at' u)) := fun s hs => by
    rw [PS.sub_at, PS.one_at]
    show K.a (if s = 0 then K.c 1 else K.c 0) (K.m (K.c (-1)) (K.c (at' a s))) = K.c (at' u s)
    rw [← K.cM]
    by_cases h0 : s = 0
    · subst h0
      rw [if_pos rfl, ← K.cA, ha0, hu0]; rfl
    · rw [if_neg h0, ← K.cA]
      refine K.c_congr hK ?_
      have := hau s (by omega) hs
      apply Int.emod_eq_emod_iff_emod_sub_eq_zero.2
      have e : 0 + -1 * at' a s - at' u s = -(at' a s + at' u s) := by omega
      rw [e]
      exact Int.emod_eq_zero_of_dvd (Int.dvd_neg.2 (Int.dvd_of_emod_eq_zero this))
  have hin : i * n ≤ d := Nat.le_trans (Nat.mul_le_mul_right n hi) (Nat.div_mul_le_self d n)
  have hin1 : 1 ≤ i * n := Nat.mul_pos hi1 (by omega)
  have e1 := vto n (i * n) hin
  rw [(hus.nrm z n) (i * n) hin, nrm_fL hR.root hm hK hu hu0 (i * n) hin, PS.sub_at, PS.one_at, if_neg (by omega), wS_at] at e1
  have e2 : (PS.sp n (PS.li K (at' (fL m n (d / n) (cL m u d) d)))) (i * n) = K.c (at' (fL m n (d / n) (cL m u d) d) i) := by
    show (if i * n % n = 0 then K.c _ else K.c 0) = _
    rw [if_pos (Nat.mul_mod_left _ _), Nat.mul_div_cancel _ (by omega)]
  rw [e2, K.aZl] at e1
  have e3 : wv K z k ((toN m k (ruL n) a (d + 1) (mulT m) n).getD (i * n) []) = K.c (-at' (fL m n (d / n) (cL m u d) d) i) := by
    rw [show -at' (fL m n (d / n) (cL m u d) d) i = -1 * at' (fL m n (d / n) (cL m u d) d) i by omega, K.cM, ← e1, ← K.mA, ← K.cM]
    exact (K.mIl _).symm
  have e4 := hR.real _ _ (by rw [hkk]; exact e3)
  have e5 : at' (frW m n d (mulT m) a) i = at' ((toN m k (ruL n) a (d + 1) (mulT m) n).getD (i * n) []) 0 := by
    rw [frW, at_tab (by omega), hkk]
  rw [e5]
  have := Int.emod_eq_emod_iff_emod_sub_eq_zero.1 e4
  rwa [Int.sub_neg] at this
end Go.Proofs.Ytahnnangdepkbaa

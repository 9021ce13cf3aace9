import Derived.Test.YtapdekacpecgiaaGreatAa
import Derived.Test.YtapdekacpecgiaaGreatWr
import Derived.Test.YtapdekacpecgiaaGreatWr
namespace Go.Proofs.YtapdekacpecgiaaGreat
open Go.RowKit
set_option linter.unusedSimpArgs false
set_option linter.unusedVariables false
set_option linter.unusedSectionVars false
set_option maxRecDepth 20000
set_option maxHeartbeats 1000000
inductive Zye where
  | z : Zye
  | y : Zye
  | c (i : Int) : Zye
  | a (s t : Zye) : Zye
  | m (s t : Zye) : Zye
  | p (s : Zye) (n : Nat) : Zye
  | q (l : List (List Int)) : Zye
def uV {R : Type} (K : Rg R) (z : R) : List Int → R
  | [] => K.c 0
  | x :: l => K.a (K.c x) (K.m z (uV K z l))
def bV {R : Type} (K : Rg R) (z y : R) : List (List Int) → R
  | [] => K.c 0
  | f :: l => K.a (uV K z f) (K.m y (bV K z y l))
def Zye.v {R : Type} (K : Rg R) (z y : R) : Zye → R
  | .z => z
  | .y => y
  | .c i => K.c i
  | .a s t => K.a (Zye.v K z y s) (Zye.v K z y t)
  | .m s t => K.m (Zye.v K z y s) (Zye.v K z y t)
  | .p s n => K.p (Zye.v K z y s) n
  | .q l => bV K z y l
def uA : List Int → List Int → List Int
  | [], g => g
  | x :: f, [] => x :: f
  | x :: f, w :: g => (x + w) :: uA f g
def uS (k : Int) : List Int → List Int
  | [] => []
  | x :: f => (k * x) :: uS k f
def uM : List Int → List Int → List Int
  | [], _ => []
  | x :: f, g => uA (uS x g) (0 :: uM f g)
def bA : List (List Int) → List (List Int) → List (List Int)
  | [], g => g
  | x :: f, [] => x :: f
  | x :: f, w :: g => uA x w :: bA f g
def bS (k : List Int) : List (List Int) → List (List Int)
  | [] => []
  | x :: f => uM k x :: bS k f
def bM : List (List Int) → List (List Int) → List (List Int)
  | [], _ => []
  | x :: f, g => bA (bS x g) ([] :: bM f g)
def bP (f : List (List Int)) : Nat → List (List Int)
  | 0 => [[1]]
  | n + 1 => bM (bP f n) f
def Zye.n : Zye → List (List Int)
  | .z => [[0, 1]]
  | .y => [[], [1]]
  | .c i => [[i]]
  | .a s t => bA (Zye.n s) (Zye.n t)
  | .m s t => bM (Zye.n s) (Zye.n t)
  | .p s n => bP (Zye.n s) n
  | .q l => l
section
variable {R : Type} (K : Rg R) (z y : R)
theorem uV_a : ∀ f g, uV K z (uA f g) = K.a (uV K z f) (uV K z g)
  | [], g => (K.aZl _).symm
  | x :: f, [] => (K.aZ _).symm
  | x :: f, w :: g => by
    rw [uA, uV, uV, uV, uV_a f g, K.cA, K.mD, K.a4]
theorem uV_s (k : Int) : ∀ f, uV K z (uS k f) = K.m (K.c k) (uV K z f)
  | [] => (K.mZ _).symm
  | x :: f => by
    rw [uS, uV, uV, uV_s k f, K.cM, K.mD]
    congr 1
    ac_rfl
theorem uV_m : ∀ f g, uV K z (uM f g) = K.m (uV K z f) (uV K z g)
  | [], g => (K.mZl _).symm
  | x :: f, g => by
    rw [uM, uV_a, uV_s, uV, uV, uV_m f g, K.aZl, K.mDr, K.mA]
theorem bV_a : ∀ f g, bV K z y (bA f g) = K.a (bV K z y f) (bV K z y g)
  | [], g => (K.aZl _).symm
  | x :: f, [] => (K.aZ _).symm
  | x :: f, w :: g => by
    rw [bA, bV, bV, bV, bV_a f g, uV_a, K.mD, K.a4]
theorem bV_s (k : List Int) : ∀ f, bV K z y (bS k f) = K.m (uV K z k) (bV K z y f)
  | [] => (K.mZ _).symm
  | x :: f => by
    rw [bS, bV, bV, bV_s k f, uV_m, K.mD]
    congr 1
    ac_rfl
theorem bV_m : ∀ f g, bV K z y (bM f g) = K.m (bV K z y f) (bV K z y g)
  | [], g => (K.mZl _).symm
  | x :: f, g => by
    rw [bM, bV_a, bV_s, bV, bV, bV_m f g, uV, K.aZl, K.mDr, K.mA]
theorem bV_one : bV K z y [[1]] = K.c 1 := by
  rw [bV, bV, uV, uV, K.mZ, K.mZ, K.aZ, K.aZ]
theorem bV_p (f : List (List Int)) : ∀ n, bV K z y (bP f n) = K.p (bV K z y f) n
  | 0 => bV_one K z y
  | n + 1 => by rw [bP, bV_m, bV_p f n]; rfl
theorem Zye.n_v : ∀ e : Zye, bV K z y e.n = e.v K z y
  | .z => by
    show bV K z y [[0, 1]] = z
    rw [bV, bV, uV, uV, uV, K.mZ, K.mZ, K.aZ, K.aZ, K.aZl, K.mI]
  | .y => by
    show bV K z y [[], [1]] = y
    rw [bV, bV, bV, uV, uV, uV, K.mZ, K.mZ, K.aZ, K.aZ, K.aZl, K.mI]
  | .c i => by
    show bV K z y [[i]] = K.c i
    rw [bV, bV, uV, uV, K.mZ, K.mZ, K.aZ, K.aZ]
  | .a s t => by
    show bV K z y (bA s.n t.n) = K.a (s.v K z y) (t.v K z y)
    rw [bV_a, Zye.n_v s, Zye.n_v t]
  | .m s t => by
    show bV K z y (bM s.n t.n) = K.m (s.v K z y) (t.v K z y)
    rw [bV_m, Zye.n_v s, Zye.n_v t]
  | .p s n => by
    show bV K z y (bP s.n n) = K.p (s.v K z y) n
    rw [bV_p, Zye.n_v s]
  | .q l => rfl
theorem uV_zero : ∀ f : List Int, f.all (fun x => x == 0) = true → uV K z f = K.c 0
  | [], _ => rfl
  | x :: f, h => by
    rw [List.all_cons, Bool.and_eq_true] at h
    rw [uV, uV_zero f h.2, eq_of_beq h.1, K.mZ, K.aZ]
theorem bV_zero : ∀ f : List (List Int), f.all (fun g => g.all (fun x => x == 0)) = true → bV K z y f = K.c 0
  | [], _ => rfl
  | x :: f, h => by
    rw [List.all_cons, Bool.and_eq_true] at h
    rw [bV, bV_zero f h.2, uV_zero K z x h.1, K.mZ, K.aZ]
theorem Zye.same (s t : Zye) (h : (Zye.n (.a s (.m (.c (-1)) t))).all (fun g => g.all (fun x => x == 0)) = true) : s.v K z y = t.v K z y := by
  have h0 : K.a (s.v K z y) (K.m (K.c (-1)) (t.v K z y)) = K.c 0 := (Zye.n_v K z y (.a s (.m (.c (-1)) t))).symm.trans (bV_zero K z y _ h)
  have h1 : K.a (K.m (K.c (-1)) (t.v K z y)) (t.v K z y) = K.c 0 := by
    have e : K.a (K.m (K.c (-1)) (t.v K z y)) (K.m (K.c 1) (t.v K z y)) = K.c 0 := by
      rw [← K.mDr, ← K.cA, show (-1 + 1 : Int) = 0 from rfl, K.mZl]
    rw [K.mIl] at e
    exact e
  have h2 : s.v K z y = K.a (s.v K z y) (K.a (K.m (K.c (-1)) (t.v K z y)) (t.v K z y)) := by rw [h1, K.aZ]
  rw [h2, ← K.aA, h0, K.aZl]
theorem Zye.same0 (d s t q : Zye) (hd : d.v K z y = K.c 0) (h : (Zye.n (.a s (.m (.c (-1)) (.a t (.m d q))))).all (fun g => g.all (fun x => x == 0)) = true) : s.v K z y = t.v K z y := by
  have e := Zye.same K z y s (.a t (.m d q)) h
  rw [e]
  show K.a (t.v K z y) (K.m (d.v K z y) (q.v K z y)) = _
  rw [hd, K.mZl, K.aZ]
end
end Go.Proofs.YtapdekacpecgiaaGreat

/-
  Plain laws: sums of points are associative. No program.
-/
import Derived.Test.YtoooefcjkmfhoaaOg
import Derived.Test.YtoooefcjkmfhoaaOn
namespace Go.Proofs.Ytoooefcjkmfhoaa
open Go.RowKit
set_option linter.unusedSimpArgs false
set_option linter.unusedVariables false
set_option linter.unusedSectionVars false
set_option maxRecDepth 20000
-- Plain laws: sums of points are associative. No program.
theorem lc_v {p c v y s x u : Int} (hc : eqp p (c) (y-s*x)) (hs : eqp p (s*(x-u)) (y-v)) : eqp p (v) (s*u+c) := by
  have e : (v) - (s*u+c) = (-1) * ((c) - (y-s*x)) + (1) * ((s*(x-u)) - (y-v)) := by grind
  unfold eqp at *; rw [e]
  exact Int.dvd_add (dvd1 _ hc) (dvd1 _ hs)
theorem lc_e1 {p w s x u : Int} (hw : eqp p (w) (s*s-x-u)) : eqp p (s*s) (x+u+w) := by
  have e : (s*s) - (x+u+w) = (-1) * ((w) - (s*s-x-u)) := by grind
  unfold eqp at *; rw [e]
  exact dvd1 _ hw
theorem lc_e2 {p w c a v y s x u : Int} (hc : eqp p (c) (y-s*x)) (hl : eqp p (s*(v+y)) (u*u+u*x+x*x+a)) (hs : eqp p (s*(x-u)) (y-v)) (hw : eqp p (w) (s*s-x-u)) : eqp p (x*u+w*x+w*u) (a-2*s*c) := by
  have e : (x*u+w*x+w*u) - (a-2*s*c) = (2*s) * ((c) - (y-s*x)) + (1) * ((s*(v+y)) - (u*u+u*x+x*x+a)) + (-s) * ((s*(x-u)) - (y-v)) + (u + x) * ((w) - (s*s-x-u)) := by grind
  unfold eqp at *; rw [e]
  exact Int.dvd_add (Int.dvd_add (Int.dvd_add (dvd1 _ hc) (dvd1 _ hl)) (dvd1 _ hs)) (dvd1 _ hw)
theorem lc_e3 {p w c b a v y s x u : Int} (hc : eqp p (c) (y-s*x)) (hl : eqp p (s*(v+y)) (u*u+u*x+x*x+a)) (hs : eqp p (s*(x-u)) (y-v)) (hP : eqp p (y*y) (x*x*x+a*x+b)) (hw : eqp p (w) (s*s-x-u)) : eqp p (x*u*w) (c*c-b) := by
  have e : (x*u*w) - (c*c-b) = (-c + s*x - y) * ((c) - (y-s*x)) + (x) * ((s*(v+y)) - (u*u+u*x+x*x+a)) + (-s*x) * ((s*(x-u)) - (y-v)) + (-1) * ((y*y) - (x*x*x+a*x+b)) + (u*x) * ((w) - (s*s-x-u)) := by grind
  unfold eqp at *; rw [e]
  exact Int.dvd_add (Int.dvd_add (Int.dvd_add (Int.dvd_add (dvd1 _ hc) (dvd1 _ hl)) (dvd1 _ hs)) (dvd1 _ hP)) (dvd1 _ hw)
theorem lt_e1 {p w s x : Int} (hw : eqp p (w) (s*s-x-x)) : eqp p (s*s) (x+x+w) := by
  have e : (s*s) - (x+x+w) = (-1) * ((w) - (s*s-x-x)) := by grind
  unfold eqp at *; rw [e]
  exact dvd1 _ hw
theorem lt_e2 {p w c a y s x : Int} (hc : eqp p (c) (y-s*x)) (hs : eqp p (s*(2*y)) (3*x*x+a)) (hw : eqp p (w) (s*s-x-x)) : eqp p (x*x+w*x+w*x) (a-2*s*c) := by
  have e : (x*x+w*x+w*x) - (a-2*s*c) = (2*s) * ((c) - (y-s*x)) + (1) * ((s*(2*y)) - (3*x*x+a)) + (2*x) * ((w) - (s*s-x-x)) := by grind
  unfold eqp at *; rw [e]
  exact Int.dvd_add (Int.dvd_add (dvd1 _ hc) (dvd1 _ hs)) (dvd1 _ hw)
theorem lt_e3 {p w c b a y s x : Int} (hc : eqp p (c) (y-s*x)) (hP : eqp p (y*y) (x*x*x+a*x+b)) (hs : eqp p (s*(2*y)) (3*x*x+a)) (hw : eqp p (w) (s*s-x-x)) : eqp p (x*x*w) (c*c-b) := by
  have e : (x*x*w) - (c*c-b) = (-c + s*x - y) * ((c) - (y-s*x)) + (-1) * ((y*y) - (x*x*x+a*x+b)) + (x) * ((s*(2*y)) - (3*x*x+a)) + ((x*x)) * ((w) - (s*s-x-x)) := by grind
  unfold eqp at *; rw [e]
  exact Int.dvd_add (Int.dvd_add (Int.dvd_add (dvd1 _ hc) (dvd1 _ hP)) (dvd1 _ hs)) (dvd1 _ hw)
theorem lin_on {p y a b w l c x u : Int} (hy : eqp p (y) (l*x+c)) (e1 : eqp p (l*l) (x+u+w)) (e2 : eqp p (x*u+w*x+w*u) (a-2*l*c)) (e3 : eqp p (x*u*w) (c*c-b)) : eqp p (y*y) (x*x*x+a*x+b) := by
  have e : (y*y) - (x*x*x+a*x+b) = (c + l*x + y) * ((y) - (l*x+c)) + ((x*x)) * ((l*l) - (x+u+w)) + (x) * ((x*u+w*x+w*u) - (a-2*l*c)) + (-1) * ((x*u*w) - (c*c-b)) := by grind
  unfold eqp at *; rw [e]
  exact Int.dvd_add (Int.dvd_add (Int.dvd_add (dvd1 _ hy) (dvd1 _ e1)) (dvd1 _ e2)) (dvd1 _ e3)
theorem lin_tan {p a y w l c x : Int} (hy : eqp p (y) (l*x+c)) (e1 : eqp p (l*l) (x+x+w)) (e2 : eqp p (x*x+w*x+w*x) (a-2*l*c)) : eqp p (l*(2*y)) (3*x*x+a) := by
  have e : (l*(2*y)) - (3*x*x+a) = (2*l) * ((y) - (l*x+c)) + (2*x) * ((l*l) - (x+x+w)) + (1) * ((x*x+w*x+w*x) - (a-2*l*c)) := by grind
  unfold eqp at *; rw [e]
  exact Int.dvd_add (Int.dvd_add (dvd1 _ hy) (dvd1 _ e1)) (dvd1 _ e2)
theorem lin_cut {p a b w l c x u X : Int} (e1 : eqp p (l*l) (x+u+w)) (e2 : eqp p (x*u+w*x+w*u) (a-2*l*c)) (e3 : eqp p (x*u*w) (c*c-b)) : eqp p ((X-x)*((X-u)*(X-w))) (X*X*X+a*X+b-(l*X+c)*(l*X+c)) := by
  have e : ((X-x)*((X-u)*(X-w))) - (X*X*X+a*X+b-(l*X+c)*(l*X+c)) = ((X*X)) * ((l*l) - (x+u+w)) + (X) * ((x*u+w*x+w*u) - (a-2*l*c)) + (-1) * ((x*u*w) - (c*c-b)) := by grind
  unfold eqp at *; rw [e]
  exact Int.dvd_add (Int.dvd_add (dvd1 _ e1) (dvd1 _ e2)) (dvd1 _ e3)
theorem slope_ch {p s y v l c x u : Int} (hy : eqp p (y) (l*x+c)) (hv : eqp p (v) (l*u+c)) (hs : eqp p (s*(x-u)) (y-v)) : eqp p ((x-u)*(s-l)) (0) := by
  have e : ((x-u)*(s-l)) - (0) = (1) * ((y) - (l*x+c)) + (-1) * ((v) - (l*u+c)) + (1) * ((s*(x-u)) - (y-v)) := by grind
  unfold eqp at *; rw [e]
  exact Int.dvd_add (Int.dvd_add (dvd1 _ hy) (dvd1 _ hv)) (dvd1 _ hs)
theorem slope_tn {p s l y a x : Int} (hs : eqp p (s*(2*y)) (3*x*x+a)) (ht : eqp p (l*(2*y)) (3*x*x+a)) : eqp p ((2*y)*(s-l)) (0) := by
  have e : ((2*y)*(s-l)) - (0) = (1) * ((s*(2*y)) - (3*x*x+a)) + (-1) * ((l*(2*y)) - (3*x*x+a)) := by grind
  unfold eqp at *; rw [e]
  exact Int.dvd_add (dvd1 _ hs) (dvd1 _ ht)
theorem third_x {p s w l x u : Int} (hsl : eqp p (s-l) (0)) (e1 : eqp p (l*l) (x+u+w)) : eqp p (s*s-x-u) (w) := by
  have e : (s*s-x-u) - (w) = (l + s) * ((s-l) - (0)) + (1) * ((l*l) - (x+u+w)) := by grind
  unfold eqp at *; rw [e]
  exact Int.dvd_add (dvd1 _ hsl) (dvd1 _ e1)
theorem third_y {p s z y l c x w : Int} (hsl : eqp p (s-l) (0)) (hy : eqp p (y) (l*x+c)) (hz : eqp p (z) (l*w+c)) : eqp p (s*(x-w)-y) (-z) := by
  have e : (s*(x-w)-y) - (-z) = (-w + x) * ((s-l) - (0)) + (-1) * ((y) - (l*x+c)) + (1) * ((z) - (l*w+c)) := by grind
  unfold eqp at *; rw [e]
  exact Int.dvd_add (Int.dvd_add (dvd1 _ hsl) (dvd1 _ hy)) (dvd1 _ hz)
theorem con_van {p y d z a u l c m w x : Int} (hy : eqp p (y) (l*x+c)) (hz2 : eqp p (-z) (m*w+d)) (hz : eqp p (z) (l*w+c)) (e1 : eqp p (l*l) (x+u+w)) (e2 : eqp p (x*u+w*x+w*u) (a-2*l*c)) : eqp p (x*x+(w+l*m)*x+(w*w+l*m*w+a+l*d+m*c)) ((l+m)*y) := by
  have e : (x*x+(w+l*m)*x+(w*w+l*m*w+a+l*d+m*c)) - ((l+m)*y) = (-l - m) * ((y) - (l*x+c)) + (-l) * ((-z) - (m*w+d)) + (-l) * ((z) - (l*w+c)) + (-w - x) * ((l*l) - (x+u+w)) + (-1) * ((x*u+w*x+w*u) - (a-2*l*c)) := by grind
  unfold eqp at *; rw [e]
  exact Int.dvd_add (Int.dvd_add (Int.dvd_add (Int.dvd_add (dvd1 _ hy) (dvd1 _ hz2)) (dvd1 _ hz)) (dvd1 _ e1)) (dvd1 _ e2)
theorem con_der {p a x y w z l n k c3 c4 : Int} (ht : eqp p (l*(2*y)) (3*x*x+a)) (h3 : eqp p (y) (n*x+c3)) (h4 : eqp p (y) (k*x+c4)) (hq : eqp p (x*x+(w+n*k)*x+(w*w+n*k*w+a+n*c4+k*c3)) ((n+k)*y)) (hz : eqp p (z) (n*w+c3)) (hz2 : eqp p (-z) (k*w+c4)) : eqp p ((x-w)*(2*x+(w+n*k)-(n+k)*l)) (0) := by
  have e : ((x-w)*(2*x+(w+n*k)-(n+k)*l)) - (0) = (-1) * ((l*(2*y)) - (3*x*x+a)) + (l-k) * ((y) - (n*x+c3)) + (l-n) * ((y) - (k*x+c4)) + (-1) * ((x*x+(w+n*k)*x+(w*w+n*k*w+a+n*c4+k*c3)) - ((n+k)*y)) + (-l) * ((z) - (n*w+c3)) + (-l) * ((-z) - (k*w+c4)) := by grind
  unfold eqp at *; rw [e]
  exact Int.dvd_add (Int.dvd_add (Int.dvd_add (Int.dvd_add (Int.dvd_add (dvd1 _ ht) (dvd1 _ h3)) (dvd1 _ h4)) (dvd1 _ hq)) (dvd1 _ hz)) (dvd1 _ hz2)
theorem con_tan {p x l m w : Int} (e1 : eqp p (l*l) (x+x+w)) : eqp p (w+l*m+2*x) ((l+m)*l) := by
  have e : (w+l*m+2*x) - ((l+m)*l) = (-1) * ((l*l) - (x+x+w)) := by grind
  unfold eqp at *; rw [e]
  exact dvd1 _ e1
theorem fin_x {p x1 x2 x3 xa xb xs xt l1 l2 l3 l4 : Int} (a2 : eqp p (l2*l2) (xa+x3+xs)) (a4 : eqp p (l4*l4) (x1+xb+xt)) (a1 : eqp p (l1*l1) (x1+x2+xa)) (a3 : eqp p (l3*l3) (x2+x3+xb)) (hs : eqp p (l1+l2) (l3+l4)) (ha : eqp p (xa+l1*l2) (xb+l3*l4)) : eqp p (xs) (xt) := by
  have e : (xs) - (xt) = (-1) * ((l2*l2) - (xa+x3+xs)) + (1) * ((l4*l4) - (x1+xb+xt)) + (-1) * ((l1*l1) - (x1+x2+xa)) + (1) * ((l3*l3) - (x2+x3+xb)) + (l1+l2+l3+l4) * ((l1+l2) - (l3+l4)) + (-2) * ((xa+l1*l2) - (xb+l3*l4)) := by grind
  unfold eqp at *; rw [e]
  exact Int.dvd_add (Int.dvd_add (Int.dvd_add (Int.dvd_add (Int.dvd_add (dvd1 _ a2) (dvd1 _ a4)) (dvd1 _ a1)) (dvd1 _ a3)) (dvd1 _ hs)) (dvd1 _ ha)
theorem fin_y {p X A B A' B' s s' y y' : Int} (v1 : eqp p (X*X+A*X+B) (s*y)) (v2 : eqp p (X*X+A'*X+B') (s'*y')) (ha : eqp p (A) (A')) (hb : eqp p (B) (B')) (hs : eqp p (s) (s')) : eqp p (s*(y-y')) (0) := by
  have e : (s*(y-y')) - (0) = (-1) * ((X*X+A*X+B) - (s*y)) + (1) * ((X*X+A'*X+B') - (s'*y')) + (X) * ((A) - (A')) + (1) * ((B) - (B')) + (-y') * ((s) - (s')) := by grind
  unfold eqp at *; rw [e]
  exact Int.dvd_add (Int.dvd_add (Int.dvd_add (Int.dvd_add (dvd1 _ v1) (dvd1 _ v2)) (dvd1 _ ha)) (dvd1 _ hb)) (dvd1 _ hs)
theorem dif_van {p X Y A B s A' B' s' : Int} (v1 : eqp p (X*X+A*X+B) (s*Y)) (v2 : eqp p (X*X+A'*X+B') (s'*Y)) : eqp p ((A-A')*X+(B-B')) ((s-s')*Y) := by
  have e : ((A-A')*X+(B-B')) - ((s-s')*Y) = (1) * ((X*X+A*X+B) - (s*Y)) + (-1) * ((X*X+A'*X+B') - (s'*Y)) := by grind
  unfold eqp at *; rw [e]
  exact Int.dvd_add (dvd1 _ v1) (dvd1 _ v2)
theorem dif_l {p x y u v l c da db ds : Int} (hy : eqp p (y) (l*x+c)) (hv : eqp p (v) (l*u+c)) (d1 : eqp p (da*x+db) (ds*y)) (d2 : eqp p (da*u+db) (ds*v)) : eqp p ((x-u)*(ds*l-da)) (0) := by
  have e : ((x-u)*(ds*l-da)) - (0) = (-ds) * ((y) - (l*x+c)) + (ds) * ((v) - (l*u+c)) + (-1) * ((da*x+db) - (ds*y)) + (1) * ((da*u+db) - (ds*v)) := by grind
  unfold eqp at *; rw [e]
  exact Int.dvd_add (Int.dvd_add (Int.dvd_add (dvd1 _ hy) (dvd1 _ hv)) (dvd1 _ d1)) (dvd1 _ d2)
theorem dif_c {p x y l c da db ds : Int} (hy : eqp p (y) (l*x+c)) (d1 : eqp p (da*x+db) (ds*y)) (hl : eqp p (ds*l-da) (0)) : eqp p (ds*c) (db) := by
  have e : (ds*c) - (db) = (-ds) * ((y) - (l*x+c)) + (-1) * ((da*x+db) - (ds*y)) + (-x) * ((ds*l-da) - (0)) := by grind
  unfold eqp at *; rw [e]
  exact Int.dvd_add (Int.dvd_add (dvd1 _ hy) (dvd1 _ d1)) (dvd1 _ hl)
theorem dif_3 {p X Y l c da db ds : Int} (d3 : eqp p (da*X+db) (ds*Y)) (hl : eqp p (ds*l-da) (0)) (hc : eqp p (ds*c) (db)) : eqp p (ds*(Y-(l*X+c))) (0) := by
  have e : (ds*(Y-(l*X+c))) - (0) = (-1) * ((da*X+db) - (ds*Y)) + (-X) * ((ds*l-da) - (0)) + (-1) * ((ds*c) - (db)) := by grind
  unfold eqp at *; rw [e]
  exact Int.dvd_add (Int.dvd_add (dvd1 _ d3) (dvd1 _ hl)) (dvd1 _ hc)
theorem cut_0 {p a b X Y l c : Int} (hP : eqp p (Y*Y) (X*X*X+a*X+b)) (hl : eqp p (Y) (l*X+c)) : eqp p (X*X*X+a*X+b-(l*X+c)*(l*X+c)) (0) := by
  have e : (X*X*X+a*X+b-(l*X+c)*(l*X+c)) - (0) = (-1) * ((Y*Y) - (X*X*X+a*X+b)) + (Y+(l*X+c)) * ((Y) - (l*X+c)) := by grind
  unfold eqp at *; rw [e]
  exact Int.dvd_add (dvd1 _ hP) (dvd1 _ hl)
theorem sig_x {p x u w z X U l c m d a : Int} (m1 : eqp p (z) (l*w+c)) (m2 : eqp p (-z) (m*w+d)) (s0 : eqp p (l+m) (0)) (e1 : eqp p (l*l) (x+u+w)) (f1 : eqp p (m*m) (w+X+U)) (e2 : eqp p (x*u+w*x+w*u) (a-2*l*c)) (f2 : eqp p (w*X+U*w+U*X) (a-2*m*d)) : eqp p ((X-x)*(X-u)) (0) := by
  have e : ((X-x)*(X-u)) - (0) = (2*l) * ((z) - (l*w+c)) + (-2*m) * ((-z) - (m*w+d)) + ((l-m)*(w-X)-2*z) * ((l+m) - (0)) + (X+w) * ((l*l) - (x+u+w)) + (-(X+w)) * ((m*m) - (w+X+U)) + (1) * ((x*u+w*x+w*u) - (a-2*l*c)) + (-1) * ((w*X+U*w+U*X) - (a-2*m*d)) := by grind
  unfold eqp at *; rw [e]
  exact Int.dvd_add (Int.dvd_add (Int.dvd_add (Int.dvd_add (Int.dvd_add (Int.dvd_add (dvd1 _ m1) (dvd1 _ m2)) (dvd1 _ s0)) (dvd1 _ e1)) (dvd1 _ f1)) (dvd1 _ e2)) (dvd1 _ f2)
theorem sig_y {p x y Y w z l c m d : Int} (hY : eqp p (Y) (m*x+d)) (hy : eqp p (y) (l*x+c)) (m1 : eqp p (z) (l*w+c)) (m2 : eqp p (-z) (m*w+d)) (s0 : eqp p (l+m) (0)) : eqp p (Y) (-y) := by
  have e : (Y) - (-y) = (1) * ((Y) - (m*x+d)) + (1) * ((y) - (l*x+c)) + (-1) * ((z) - (l*w+c)) + (-1) * ((-z) - (m*w+d)) + (x-w) * ((l+m) - (0)) := by grind
  unfold eqp at *; rw [e]
  exact Int.dvd_add (Int.dvd_add (Int.dvd_add (Int.dvd_add (dvd1 _ hY) (dvd1 _ hy)) (dvd1 _ m1)) (dvd1 _ m2)) (dvd1 _ s0)

/-- Three points of a line that meet the curve there, each as often as it says. -/
structure Lin (p a b l c x y u v w z : Int) : Prop where
  hy : eqp p y (l*x+c)
  hv : eqp p v (l*u+c)
  hz : eqp p z (l*w+c)
  e1 : eqp p (l*l) (x+u+w)
  e2 : eqp p (x*u+w*x+w*u) (a-2*l*c)
  e3 : eqp p (x*u*w) (c*c-b)
theorem Lin.swap {p a b l c x y u v w z : Int} (h : Lin p a b l c x y u v w z) : Lin p a b l c u v x y w z :=
  ⟨h.hv, h.hy, h.hz, by have := h.e1; rwa [show x + u + w = u + x + w by omega] at this, by have := h.e2; rwa [show x*u+w*x+w*u = u*x+w*u+w*x by grind] at this, by have := h.e3; rwa [show x*u*w = u*x*w by grind] at this⟩
theorem Lin.rot {p a b l c x y u v w z : Int} (h : Lin p a b l c x y u v w z) : Lin p a b l c u v w z x y :=
  ⟨h.hv, h.hz, h.hy, by have := h.e1; rwa [show x + u + w = u + w + x by omega] at this, by have := h.e2; rwa [show x*u+w*x+w*u = u*w+x*u+x*w by grind] at this, by have := h.e3; rwa [show x*u*w = u*w*x by grind] at this⟩
theorem opp_ne {p y v : Int} (h : ¬ ((y + v) % p = 0)) : ¬ eqp p (y + v) 0 := fun e => h (by have := eqp_iff.1 e; simpa using this)
theorem opp_eq {p y v : Int} (h : (y + v) % p = 0) : eqp p (y + v) 0 := eqp_iff.2 (by rw [h]; simp)
theorem eqp_0 {p x y : Int} (h : eqp p (x - y) 0) : eqp p x y := by unfold eqp at *; rwa [Int.sub_zero] at h
/-- Two points that are not opposite lie on a line, and their sum is opposite to its third point. -/
theorem lin_of {p a b x y u v : Int} (h : fieldB p = true) (hP : hasB p a b [x, y] = true) (hQ : hasB p a b [u, v] = true) (hc : ¬(x = u ∧ (y + v) % p = 0)) :
    ∃ l c w z, (0 ≤ w ∧ w < p) ∧ (0 ≤ z ∧ z < p) ∧ Lin p a b l c x y u v w z ∧ addE p a [x, y] [u, v] = [w, -z % p] := by
  have hp := fieldB_facts h
  have hp0 : 0 < p := by omega
  obtain ⟨gx, gy, gP⟩ := (hasB_two hp0).1 hP
  obtain ⟨gu, gv, gX⟩ := (hasB_two hp0).1 hQ
  obtain ⟨w0, z0, he, hw, hz⟩ := addE_two (p := p) (a := a) hc
  have hw' : eqp p (w0 % p) (slopeE p a x y u v * slopeE p a x y u v - x - u) := by rw [hw]; exact eqp_mod p _
  refine ⟨slopeE p a x y u v, y - slopeE p a x y u v * x, w0 % p, (slopeE p a x y u v * (w0 % p) + (y - slopeE p a x y u v * x)) % p, emod_b w0 p hp0, emod_b _ p hp0, ?_, ?_⟩
  · have hcc := eqp_rfl p (y - slopeE p a x y u v * x)
    by_cases hx : x = u
    · subst hx
      have hne : (y + v) % p ≠ 0 := fun e => hc ⟨rfl, e⟩
      have hyv := same_x h gP gX gy.1 gy.2 gv.1 gv.2 hne
      subst hyv
      have h2 : ¬ eqp p (2 * y) 0 := y_two h (opp_ne hne)
      have hs := slope_tang (a := a) (x := x) (v := y) h h2
      generalize slopeE p a x y x y = s at *
      have hyy : eqp p y (s * x + (y - s * x)) := by rw [show s * x + (y - s * x) = y by omega]; exact eqp_rfl p y
      exact ⟨hyy, hyy, eqp_mod p _, lt_e1 hw', lt_e2 hcc hs hw', lt_e3 hcc gP hs hw'⟩
    · have hs := slope_chord (a := a) (y := y) (v := v) h gx.1 gx.2 gu.1 gu.2 hx
      have hl := chord_slope h gP gX (sub_ne gx.1 gx.2 gu.1 gu.2 hx) hs
      generalize slopeE p a x y u v = s at *
      have hyy : eqp p y (s * x + (y - s * x)) := by rw [show s * x + (y - s * x) = y by omega]; exact eqp_rfl p y
      exact ⟨hyy, lc_v hcc hs, eqp_mod p _, lc_e1 hw', lc_e2 hcc hl hs hw', lc_e3 hcc hl hs gP hw'⟩
  · rw [he]
    have e : z0 % p = -((slopeE p a x y u v * (w0 % p) + (y - slopeE p a x y u v * x)) % p) % p := by
      refine eqp_iff.1 ?_
      rw [hz]
      have h1 := eqp_mod p (slopeE p a x y u v * (w0 % p) + (y - slopeE p a x y u v * x))
      generalize (slopeE p a x y u v * (w0 % p) + (y - slopeE p a x y u v * x)) % p = t at *
      generalize slopeE p a x y u v = s at *
      generalize w0 % p = w at *
      have e : s * (x - w) - y - -t = 1 * (t - (s * w + (y - s * x))) := by grind
      unfold eqp at *; rw [e]
      exact dvd1 _ h1
    rw [e]
/-- Two points of a line: their sum is opposite to the third. -/
theorem add_lin {p a b l c x y u v w z : Int} (h : fieldB p = true) (hd : disc p a b ≠ 0) (hP : hasB p a b [x, y] = true) (hQ : hasB p a b [u, v] = true) (L : Lin p a b l c x y u v w z) (g1 : 0 ≤ w) (g2 : w < p) :
    addE p a [x, y] [u, v] = [w, -z % p] := by
  have hp := fieldB_facts h
  have hp0 : 0 < p := by omega
  obtain ⟨gx, gy, gP⟩ := (hasB_two hp0).1 hP
  obtain ⟨gu, gv, gX⟩ := (hasB_two hp0).1 hQ
  have two : ¬ eqp p 2 0 := by
    intro g2
    have := eqp_iff.1 g2
    rw [Int.emod_eq_of_lt (by omega) (by omega)] at this
    simp at this
  have key : ¬(x = u ∧ (y + v) % p = 0) ∧ eqp p (slopeE p a x y u v - l) 0 := by
    by_cases hx : x = u
    · subst hx
      have hyv : y = v := eqp_eq gy.1 gy.2 gv.1 gv.2 (eqp_trans L.hy (eqp_symm L.hv))
      subst hyv
      have ht := lin_tan L.hy L.e1 L.e2
      have h2 : ¬ eqp p (2 * y) 0 := by
        intro g
        have hy0 := no_zero h two g
        apply hd
        refine disc_zero hy0 gP ?_
        have e : 3 * x * x + a - 0 = -1 * (l * (2 * y) - (3 * x * x + a)) + (2 * l) * (y - 0) := by grind
        unfold eqp at *; rw [e]
        exact dvd2 _ _ ht hy0
      refine ⟨fun g => h2 ?_, no_zero h h2 (slope_tn (slope_tang h h2) ht)⟩
      have := opp_eq g.2
      rwa [show y + y = 2 * y by omega] at this
    · exact ⟨fun g => hx g.1, no_zero h (sub_ne gx.1 gx.2 gu.1 gu.2 hx) (slope_ch L.hy L.hv (slope_chord h gx.1 gx.2 gu.1 gu.2 hx))⟩
  obtain ⟨hc, hs⟩ := key
  obtain ⟨w0, z0, he, hw, hz⟩ := addE_two (p := p) (a := a) hc
  rw [he]
  have e1 : w0 % p = w := by
    refine eqp_eq (emod_b w0 p hp0).1 (emod_b w0 p hp0).2 g1 g2 (eqp_trans (eqp_mod p w0) ?_)
    rw [hw]
    exact third_x hs L.e1
  have e2 : z0 % p = -z % p := by
    refine eqp_iff.1 ?_
    rw [hz, e1]
    exact third_y hs L.hy L.hz
  rw [e1, e2]
theorem Lin.on {p a b l c x y u v w z : Int} (h : Lin p a b l c x y u v w z) : OnE p a b x y := lin_on h.hy h.e1 h.e2 h.e3
theorem Lin.has {p a b l c x y u v w z : Int} (h : fieldB p = true) (L : Lin p a b l c x y u v w z) (g1 : 0 ≤ w ∧ w < p) (g2 : 0 ≤ z ∧ z < p) : hasB p a b [w, z] = true :=
  (hasB_two (by have := fieldB_facts h; omega)).2 ⟨g1, g2, L.rot.rot.on⟩
theorem addE_nil (p a : Int) (l : List Int) : addE p a [] l = l := by simp [addE]
theorem nil_addE {p a b : Int} {l : List Int} (h : hasB p a b l = true) : addE p a l [] = l := by
  rcases hasB_cases h with rfl | ⟨x, y, rfl⟩ <;> simp [addE]
/-- Sums of points do not depend on the order. -/
theorem addE_comm {p a b : Int} (h : fieldB p = true) (hd : disc p a b ≠ 0) {P Q : List Int} (hP : hasB p a b P = true) (hQ : hasB p a b Q = true) : addE p a P Q = addE p a Q P := by
  rcases hasB_cases hP with rfl | ⟨x, y, rfl⟩
  · rw [addE_nil, nil_addE hQ]
  rcases hasB_cases hQ with rfl | ⟨u, v, rfl⟩
  · rw [addE_nil, nil_addE hP]
  by_cases hc : x = u ∧ (y + v) % p = 0
  · rw [addE_opp hc, addE_opp ⟨hc.1.symm, by rw [Int.add_comm]; exact hc.2⟩]
  · obtain ⟨l, c, w, z, g1, g2, L, e⟩ := lin_of h hP hQ hc
    rw [e, add_lin h hd hQ hP L.swap g1.1 g1.2]
theorem neg_of {p y v : Int} (hy : 0 ≤ y) (hy2 : y < p) (hh : (y + v) % p = 0) : y = -v % p := by
  have h1 := emod_b (-v) p (by omega)
  refine eqp_eq hy hy2 h1.1 h1.2 (eqp_trans ?_ (eqp_symm (eqp_mod p (-v))))
  have h2 := opp_eq hh
  have e : y - -v = 1 * (y + v - 0) := by omega
  unfold eqp at *; rw [e]
  exact dvd1 _ h2
theorem neg_add (p z : Int) : (-z % p + z) % p = 0 := by rw [Int.add_comm]; exact neg_sum p z
/-- Sums of three points, where two conics that belong to them are alike. -/
theorem assoc_with {p a b x1 y1 x2 y2 x3 y3 : Int} (h : fieldB p = true) (hd : disc p a b ≠ 0) (hP : hasB p a b [x1, y1] = true) (hQ : hasB p a b [x2, y2] = true) (hR : hasB p a b [x3, y3] = true)
    (K : ∀ l1 c1 xa za l2 c2 xs zs l3 c3 xb zb l4 c4 xt zt za' zb', (0 ≤ xa ∧ xa < p) → (0 ≤ za ∧ za < p) → (0 ≤ xb ∧ xb < p) → (0 ≤ zb ∧ zb < p) → ¬ (x3 = xa ∧ y3 = za) → ¬ (x1 = xb ∧ y1 = zb) → ¬ (x1 = x2 ∧ (y1 + y2) % p = 0) → ¬ (x2 = x3 ∧ (y2 + y3) % p = 0) →
      eqp p za' (-za) → eqp p zb' (-zb) → Lin p a b l1 c1 x1 y1 x2 y2 xa za → Lin p a b l2 c2 xa za' x3 y3 xs zs → Lin p a b l3 c3 x2 y2 x3 y3 xb zb → Lin p a b l4 c4 x1 y1 xb zb' xt zt →
      eqp p (xa+l1*l2) (xb+l3*l4) ∧ eqp p (xa*xa+l1*l2*xa+a+l1*c2+l2*c1) (xb*xb+l3*l4*xb+a+l3*c4+l4*c3) ∧ eqp p (l1+l2) (l3+l4)) :
    addE p a (addE p a [x1, y1] [x2, y2]) [x3, y3] = addE p a [x1, y1] (addE p a [x2, y2] [x3, y3]) := by
  have hp := fieldB_facts h
  have hp0 : 0 < p := by omega
  obtain ⟨g1, g1', gP⟩ := (hasB_two hp0).1 hP
  obtain ⟨g2, g2', gQ⟩ := (hasB_two hp0).1 hQ
  obtain ⟨g3, g3', gR⟩ := (hasB_two hp0).1 hR
  have n2 : negE p [x2, y2] = [x2, -y2 % p] := by simp [negE, at']
  by_cases c12 : x1 = x2 ∧ (y1 + y2) % p = 0
  · rw [addE_opp c12, addE_nil]
    have e1 : [x1, y1] = negE p [x2, y2] := by rw [n2, c12.1, neg_of g1'.1 g1'.2 c12.2]
    rw [addE_comm h hd hP (hasB_add h hQ hR), addE_comm h hd hQ hR, e1, add_back h hd hR hQ]
  by_cases c23 : x2 = x3 ∧ (y2 + y3) % p = 0
  · rw [addE_opp c23, nil_addE hP]
    have e1 : [x3, y3] = negE p [x2, y2] := by rw [n2, c23.1, neg_of g3'.1 g3'.2 (by rw [Int.add_comm]; exact c23.2)]
    rw [e1, add_back h hd hP hQ]
  obtain ⟨l1, c1, xa, za, ga, ga', L1, eA⟩ := lin_of h hP hQ c12
  obtain ⟨l3, c3, xb, zb, gb, gb', L3, eB⟩ := lin_of h hQ hR c23
  have hA := hasB_add h hP hQ
  have hB := hasB_add h hQ hR
  rw [eA] at hA ⊢
  rw [eB] at hB ⊢
  by_cases cS : x3 = xa ∧ y3 = za
  · obtain ⟨rfl, rfl⟩ := cS
    have e1 := add_lin h hd hQ hR L1.rot g1.1 g1.2
    rw [eB] at e1
    rw [e1, addE_opp ⟨rfl, neg_add p y3⟩, addE_opp ⟨rfl, by rw [Int.add_comm]; exact neg_add p y1⟩]
  by_cases cT : x1 = xb ∧ y1 = zb
  · obtain ⟨rfl, rfl⟩ := cT
    have e1 := add_lin h hd hP hQ L3.rot.rot g3.1 g3.2
    rw [eA] at e1
    rw [e1, addE_opp ⟨rfl, neg_add p y3⟩, addE_opp ⟨rfl, by rw [Int.add_comm]; exact neg_add p y1⟩]
  have nA : ¬ (xa = x3 ∧ (-za % p + y3) % p = 0) := by
    rintro ⟨e, e2⟩
    refine cS ⟨e.symm, ?_⟩
    refine eqp_eq g3'.1 g3'.2 ga'.1 ga'.2 ?_
    have h1 := opp_eq e2
    have h2 := eqp_mod p (-za)
    have e : y3 - za = 1 * (-za % p + y3 - 0) + -1 * (-za % p - -za) := by omega
    unfold eqp at *; rw [e]
    exact dvd2 _ _ h1 h2
  have nB : ¬ (x1 = xb ∧ (y1 + -zb % p) % p = 0) := by
    rintro ⟨e, e2⟩
    refine cT ⟨e, ?_⟩
    refine eqp_eq g1'.1 g1'.2 gb'.1 gb'.2 ?_
    have h1 := opp_eq e2
    have h2 := eqp_mod p (-zb)
    have e : y1 - zb = 1 * (y1 + -zb % p - 0) + -1 * (-zb % p - -zb) := by omega
    unfold eqp at *; rw [e]
    exact dvd2 _ _ h1 h2
  obtain ⟨l2, c2, xs, zs, gs, gs', L2, eS⟩ := lin_of h hA hR nA
  obtain ⟨l4, c4, xt, zt, gt, gt', L4, eT⟩ := lin_of h hP hB nB
  obtain ⟨ka, kb, ks⟩ := K l1 c1 xa za l2 c2 xs zs l3 c3 xb zb l4 c4 xt zt _ _ ga ga' gb gb' cS cT c12 c23 (eqp_mod p _) (eqp_mod p _) L1 L2 L3 L4
  have hx : xs = xt := eqp_eq gs.1 gs.2 gt.1 gt.2 (fin_x L2.e1 L4.e1 L1.e1 L3.e1 ks ka)
  subst hx
  have za' := eqp_mod p (-za)
  have zb' := eqp_mod p (-zb)
  -- both points are zeros of one conic
  have v1 : eqp p (xs*xs+(xa+l1*l2)*xs+(xa*xa+l1*l2*xa+a+l1*c2+l2*c1)) ((l1+l2)*zs) := by
    have M := L2.rot.swap
    have := con_van (l := l2) (c := c2) (m := l1) (d := c1) (x := xs) (u := x3) (w := xa) (z := -za) M.hy (by rw [Int.neg_neg]; exact L1.hz) (eqp_trans (eqp_symm za') L2.hy) M.e1 M.e2
    rwa [Int.mul_comm l2 l1, Int.add_comm l2 l1, show xa * xa + l1 * l2 * xa + a + l2 * c1 + l1 * c2 = xa*xa+l1*l2*xa+a+l1*c2+l2*c1 by omega] at this
  have v2 : eqp p (xs*xs+(xb+l3*l4)*xs+(xb*xb+l3*l4*xb+a+l3*c4+l4*c3)) ((l3+l4)*zt) := by
    have M := L4.rot.rot
    have := con_van (l := l4) (c := c4) (m := l3) (d := c3) (x := xs) (u := x1) (w := xb) (z := -zb) M.hy (by rw [Int.neg_neg]; exact L3.hz) (eqp_trans (eqp_symm zb') L4.hv) M.e1 M.e2
    rwa [Int.mul_comm l4 l3, Int.add_comm l4 l3, show xb * xb + l3 * l4 * xb + a + l4 * c3 + l3 * c4 = xb*xb+l3*l4*xb+a+l3*c4+l4*c3 by omega] at this
  have hf := fin_y v1 v2 ka kb ks
  by_cases s0 : eqp p (l1 + l2) 0
  · have hm2 : eqp p (-za) (l2 * xa + c2) := eqp_trans (eqp_symm za') L2.hy
    have hsx := sig_x (x := x1) (u := x2) (w := xa) (z := za) (X := x3) (U := xs) (l := l1) (c := c1) (m := l2) (d := c2) (a := a) L1.hz hm2 s0 L1.e1 L2.e1 L1.e2 L2.e2
    by_cases e1 : x3 = x1
    · subst e1
      have hy := sig_y (x := x3) (y := y1) (Y := y3) L2.hv L1.hy L1.hz hm2 s0
      have hn : y3 = -y1 % p := eqp_eq g3'.1 g3'.2 (emod_b _ p hp0).1 (emod_b _ p hp0).2 (eqp_trans hy (eqp_symm (eqp_mod p _)))
      have n1 : negE p [x3, y1] = [x3, y3] := by rw [hn]; simp [negE, at']
      have n3 : negE p [x3, y3] = [x3, y1] := by
        have : -y3 % p = y1 := by
          refine eqp_eq (emod_b _ p hp0).1 (emod_b _ p hp0).2 g1'.1 g1'.2 (eqp_trans (eqp_mod p _) ?_)
          have e : -y3 - y1 = -1 * (y3 - -y1) := by omega
          unfold eqp at *; rw [e]
          exact dvd1 _ hy
        rw [← this]; simp [negE, at']
      rw [← eA, ← eB, addE_comm h hd hP hQ, addE_comm h hd hP (hasB_add h hQ hR)]
      have r1 := add_back h hd hQ hP
      have r2 := add_back h hd hQ hR
      rw [n1] at r1
      rw [n3] at r2
      rw [r1, r2]
    · exfalso
      have h2 := eqp_0 (no_zero h (sub_ne g3.1 g3.2 g1.1 g1.2 e1) hsx)
      have e2 : x3 = x2 := eqp_eq g3.1 g3.2 g2.1 g2.2 h2
      subst e2
      have hy := sig_y (x := x3) (y := y2) (Y := y3) L2.hv L1.hv L1.hz hm2 s0
      refine c23 ⟨rfl, ?_⟩
      have h3 : eqp p (y2 + y3) 0 := by
        have e : y2 + y3 - 0 = 1 * (y3 - -y2) := by omega
        unfold eqp at *; rw [e]
        exact dvd1 _ hy
      have := eqp_iff.1 h3
      simpa using this
  · have := no_zero h s0 hf
    have : zs = zt := eqp_eq gs'.1 gs'.2 gt'.1 gt'.2 (eqp_0 this)
    rw [eS, eT, this]
/-- A point of a line that lies on the curve is one of the three. -/
theorem lin_pts {p a b l c x y u v w z X Y : Int} (h : fieldB p = true) (L : Lin p a b l c x y u v w z) (gX : OnE p a b X Y) (hl : eqp p Y (l*X+c)) : eqp p X x ∨ eqp p X u ∨ eqp p X w := by
  have h1 := eqp_trans (lin_cut (X := X) L.e1 L.e2 L.e3) (cut_0 gX hl)
  by_cases e1 : eqp p (X - x) 0
  · exact .inl (eqp_0 e1)
  have h2 := no_zero h e1 h1
  by_cases e2 : eqp p (X - u) 0
  · exact .inr (.inl (eqp_0 e2))
  exact .inr (.inr (eqp_0 (no_zero h e2 h2)))
theorem eqp_m {p a b c : Int} (h : eqp p a b) (g : eqp p c b) : eqp p a c := eqp_trans h (eqp_symm g)
/-- Sums of three different points. -/
theorem assoc_dist {p a b x1 y1 x2 y2 x3 y3 : Int} (h : fieldB p = true) (hd : disc p a b ≠ 0) (hP : hasB p a b [x1, y1] = true) (hQ : hasB p a b [x2, y2] = true) (hR : hasB p a b [x3, y3] = true)
    (n12 : ¬ (x1 = x2 ∧ y1 = y2)) (n13 : ¬ (x1 = x3 ∧ y1 = y3)) (n23 : ¬ (x2 = x3 ∧ y2 = y3)) :
    addE p a (addE p a [x1, y1] [x2, y2]) [x3, y3] = addE p a [x1, y1] (addE p a [x2, y2] [x3, y3]) := by
  have hp := fieldB_facts h
  have hp0 : 0 < p := by omega
  obtain ⟨g1, g1', gP⟩ := (hasB_two hp0).1 hP
  obtain ⟨g2, g2', gQ⟩ := (hasB_two hp0).1 hQ
  obtain ⟨g3, g3', gR⟩ := (hasB_two hp0).1 hR
  refine assoc_with h hd hP hQ hR fun l1 c1 xa za l2 c2 xs zs l3 c3 xb zb l4 c4 xt zt za' zb' ga ga' gb gb' cS cT c12 c23 hza hzb L1 L2 L3 L4 => ?_
  -- the three points are zeros of both conics
  have mza : eqp p (-za) (l2*xa+c2) := eqp_trans (eqp_symm hza) L2.hy
  have mzb : eqp p (-zb) (l4*xb+c4) := eqp_trans (eqp_symm hzb) L4.hv
  have V1 := con_van L1.hy mza L1.hz L1.e1 L1.e2
  have V2 := con_van L1.swap.hy mza L1.swap.hz L1.swap.e1 L1.swap.e2
  have V3 : eqp p (x3*x3+(xa+l1*l2)*x3+(xa*xa+l1*l2*xa+a+l1*c2+l2*c1)) ((l1+l2)*y3) := by
    have M := L2.rot
    have := con_van (l := l2) (c := c2) (m := l1) (d := c1) (x := x3) (u := xs) (w := xa) (z := -za) M.hy (by rw [Int.neg_neg]; exact L1.hz) mza M.e1 M.e2
    rwa [Int.mul_comm l2 l1, Int.add_comm l2 l1, show xa * xa + l1 * l2 * xa + a + l2 * c1 + l1 * c2 = xa*xa+l1*l2*xa+a+l1*c2+l2*c1 by omega] at this
  have W2 := con_van L3.hy mzb L3.hz L3.e1 L3.e2
  have W3 := con_van L3.swap.hy mzb L3.swap.hz L3.swap.e1 L3.swap.e2
  have W1 : eqp p (x1*x1+(xb+l3*l4)*x1+(xb*xb+l3*l4*xb+a+l3*c4+l4*c3)) ((l3+l4)*y1) := by
    have M := L4.rot.rot.swap
    have := con_van (l := l4) (c := c4) (m := l3) (d := c3) (x := x1) (u := xt) (w := xb) (z := -zb) M.hy (by rw [Int.neg_neg]; exact L3.hz) mzb M.e1 M.e2
    rwa [Int.mul_comm l4 l3, Int.add_comm l4 l3, show xb * xb + l3 * l4 * xb + a + l4 * c3 + l3 * c4 = xb*xb+l3*l4*xb+a+l3*c4+l4*c3 by omega] at this
  have D1 := dif_van V1 W1
  have D2 := dif_van V2 W2
  have D3 := dif_van V3 W3
  suffices hs : eqp p ((xa+l1*l2) - (xb+l3*l4)) 0 ∧ eqp p ((xa*xa+l1*l2*xa+a+l1*c2+l2*c1) - (xb*xb+l3*l4*xb+a+l3*c4+l4*c3)) 0 ∧ eqp p ((l1+l2) - (l3+l4)) 0 from ⟨eqp_0 hs.1, eqp_0 hs.2.1, eqp_0 hs.2.2⟩
  generalize (xa+l1*l2) - (xb+l3*l4) = da at *
  generalize (xa*xa+l1*l2*xa+a+l1*c2+l2*c1) - (xb*xb+l3*l4*xb+a+l3*c4+l4*c3) = db at *
  generalize (l1+l2) - (l3+l4) = ds at *
  by_cases s0 : eqp p ds 0
  · -- no y: one x
    have E1 : eqp p (da * x1 + db) 0 := eqp_trans D1 (by have e : ds * y1 - 0 = y1 * (ds - 0) := by grind
                                                         unfold eqp at *; rw [e]; exact dvd1 _ s0)
    have E2 : eqp p (da * x2 + db) 0 := eqp_trans D2 (by have e : ds * y2 - 0 = y2 * (ds - 0) := by grind
                                                         unfold eqp at *; rw [e]; exact dvd1 _ s0)
    have E3 : eqp p (da * x3 + db) 0 := eqp_trans D3 (by have e : ds * y3 - 0 = y3 * (ds - 0) := by grind
                                                         unfold eqp at *; rw [e]; exact dvd1 _ s0)
    have sub : ∀ X Y : Int, eqp p (da * X + db) 0 → eqp p (da * Y + db) 0 → eqp p (da * (X - Y)) 0 := by
      intro X Y hX hY
      have e : da * (X - Y) - 0 = 1 * (da * X + db - 0) + -1 * (da * Y + db - 0) := by grind
      unfold eqp at *; rw [e]
      exact dvd2 _ _ hX hY
    have ha : eqp p da 0 := by
      refine Classical.byContradiction fun ha => ?_
      have q2 : x1 = x2 := eqp_eq g1.1 g1.2 g2.1 g2.2 (eqp_0 (no_zero h ha (sub _ _ E1 E2)))
      have q3 : x1 = x3 := eqp_eq g1.1 g1.2 g3.1 g3.2 (eqp_0 (no_zero h ha (sub _ _ E1 E3)))
      subst q2; subst q3
      have r2 : (y1 + y2) % p = 0 := Classical.byContradiction fun e => n12 ⟨rfl, same_x h gP gQ g1'.1 g1'.2 g2'.1 g2'.2 e⟩
      exact c12 ⟨rfl, r2⟩
    refine ⟨ha, ?_, s0⟩
    have e : db - 0 = 1 * (da * x1 + db - 0) + -x1 * (da - 0) := by grind
    unfold eqp at *; rw [e]
    exact dvd2 _ _ E1 ha
  · exfalso
    have hx12 : x1 ≠ x2 := by
      intro e
      subst e
      refine n12 ⟨rfl, eqp_eq g1'.1 g1'.2 g2'.1 g2'.2 (eqp_0 (no_zero h s0 ?_))⟩
      have e : ds * (y1 - y2) - 0 = 1 * (da * x1 + db - ds * y2) + -1 * (da * x1 + db - ds * y1) := by grind
      unfold eqp at *; rw [e]
      exact dvd2 _ _ D2 D1
    have hl := no_zero h (sub_ne g1.1 g1.2 g2.1 g2.2 hx12) (dif_l L1.hy L1.hv D1 D2)
    have hc := dif_c L1.hy D1 hl
    have h3 := eqp_0 (no_zero h s0 (dif_3 D3 hl hc))
    rcases lin_pts h L1 gR h3 with e | e | e
    · have e := eqp_eq g3.1 g3.2 g1.1 g1.2 e
      subst e
      exact n13 ⟨rfl, eqp_eq g1'.1 g1'.2 g3'.1 g3'.2 (eqp_m L1.hy h3)⟩
    · have e := eqp_eq g3.1 g3.2 g2.1 g2.2 e
      subst e
      exact n23 ⟨rfl, eqp_eq g2'.1 g2'.2 g3'.1 g3'.2 (eqp_m L1.hv h3)⟩
    · have e := eqp_eq g3.1 g3.2 ga.1 ga.2 e
      subst e
      exact cS ⟨rfl, eqp_eq g3'.1 g3'.2 ga'.1 ga'.2 (eqp_m h3 L1.hz)⟩
/-- Sums of a point, the same point and another one. -/
theorem assoc_dbl {p a b x1 y1 x3 y3 : Int} (h : fieldB p = true) (hd : disc p a b ≠ 0) (hP : hasB p a b [x1, y1] = true) (hR : hasB p a b [x3, y3] = true) (n13 : ¬ (x1 = x3 ∧ y1 = y3)) :
    addE p a (addE p a [x1, y1] [x1, y1]) [x3, y3] = addE p a [x1, y1] (addE p a [x1, y1] [x3, y3]) := by
  have hp := fieldB_facts h
  have hp0 : 0 < p := by omega
  obtain ⟨g1, g1', gP⟩ := (hasB_two hp0).1 hP
  obtain ⟨g3, g3', gR⟩ := (hasB_two hp0).1 hR
  refine assoc_with h hd hP hP hR fun l1 c1 xa za l2 c2 xs zs l3 c3 xb zb l4 c4 xt zt za' zb' ga ga' gb gb' cS cT c12 c23 hza hzb L1 L2 L3 L4 => ?_
  have mza : eqp p (-za) (l2*xa+c2) := eqp_trans (eqp_symm hza) L2.hy
  have mzb : eqp p (-zb) (l4*xb+c4) := eqp_trans (eqp_symm hzb) L4.hv
  have V1 := con_van L1.hy mza L1.hz L1.e1 L1.e2
  have V3 : eqp p (x3*x3+(xa+l1*l2)*x3+(xa*xa+l1*l2*xa+a+l1*c2+l2*c1)) ((l1+l2)*y3) := by
    have M := L2.rot
    have := con_van (l := l2) (c := c2) (m := l1) (d := c1) (x := x3) (u := xs) (w := xa) (z := -za) M.hy (by rw [Int.neg_neg]; exact L1.hz) mza M.e1 M.e2
    rwa [Int.mul_comm l2 l1, Int.add_comm l2 l1, show xa * xa + l1 * l2 * xa + a + l2 * c1 + l1 * c2 = xa*xa+l1*l2*xa+a+l1*c2+l2*c1 by omega] at this
  have W1 := con_van L3.hy mzb L3.hz L3.e1 L3.e2
  have W3 := con_van L3.swap.hy mzb L3.swap.hz L3.swap.e1 L3.swap.e2
  have D1 := dif_van V1 W1
  have D3 := dif_van V3 W3
  -- both touch the tangent of the first point
  have ht := lin_tan L1.hy L1.e1 L1.e2
  have T1 := con_tan (m := l2) L1.e1
  have hxb : x1 ≠ xb := by
    intro e
    subst e
    have e2 : y1 = zb := eqp_eq g1'.1 g1'.2 gb'.1 gb'.2 (eqp_m L3.hy L3.hz)
    exact cT ⟨rfl, e2⟩
  have T2 : eqp p (2*x1+(xb+l3*l4)-(l3+l4)*l1) 0 := no_zero h (sub_ne g1.1 g1.2 gb.1 gb.2 hxb) (con_der ht L3.hy L4.hy W1 L3.hz mzb)
  have hl0 : eqp p (((l1+l2) - (l3+l4)) * l1 - ((xa+l1*l2) - (xb+l3*l4))) 0 := by
    have e : ((l1+l2) - (l3+l4)) * l1 - ((xa+l1*l2) - (xb+l3*l4)) - 0 = -1 * (xa+l1*l2+2*x1 - (l1+l2)*l1) + 1 * (2*x1+(xb+l3*l4)-(l3+l4)*l1 - 0) := by grind
    unfold eqp at *; rw [e]
    exact dvd2 _ _ T1 T2
  suffices hs : eqp p ((xa+l1*l2) - (xb+l3*l4)) 0 ∧ eqp p ((xa*xa+l1*l2*xa+a+l1*c2+l2*c1) - (xb*xb+l3*l4*xb+a+l3*c4+l4*c3)) 0 ∧ eqp p ((l1+l2) - (l3+l4)) 0 from ⟨eqp_0 hs.1, eqp_0 hs.2.1, eqp_0 hs.2.2⟩
  generalize (xa+l1*l2) - (xb+l3*l4) = da at *
  generalize (xa*xa+l1*l2*xa+a+l1*c2+l2*c1) - (xb*xb+l3*l4*xb+a+l3*c4+l4*c3) = db at *
  generalize (l1+l2) - (l3+l4) = ds at *
  have hc := dif_c L1.hy D1 hl0
  by_cases s0 : eqp p ds 0
  · refine ⟨?_, ?_, s0⟩
    · have e : da - 0 = l1 * (ds - 0) + -1 * (ds * l1 - da - 0) := by grind
      unfold eqp at *; rw [e]
      exact dvd2 _ _ s0 hl0
    · have e : db - 0 = c1 * (ds - 0) + -1 * (ds * c1 - db) := by grind
      unfold eqp at *; rw [e]
      exact dvd2 _ _ s0 hc
  · exfalso
    have h3 := eqp_0 (no_zero h s0 (dif_3 D3 hl0 hc))
    have n1 : eqp p x3 x1 → False := by
      intro e
      have e := eqp_eq g3.1 g3.2 g1.1 g1.2 e
      subst e
      exact n13 ⟨rfl, eqp_eq g1'.1 g1'.2 g3'.1 g3'.2 (eqp_m L1.hy h3)⟩
    rcases lin_pts h L1 gR h3 with e | e | e
    · exact n1 e
    · exact n1 e
    · have e := eqp_eq g3.1 g3.2 ga.1 ga.2 e
      subst e
      exact cS ⟨rfl, eqp_eq g3'.1 g3'.2 ga'.1 ga'.2 (eqp_m h3 L1.hz)⟩
/-- Sums of points do not depend on the brackets. -/
theorem addE_assoc {p a b : Int} (h : fieldB p = true) (hd : disc p a b ≠ 0) {P Q R : List Int} (hP : hasB p a b P = true) (hQ : hasB p a b Q = true) (hR : hasB p a b R = true) :
    addE p a (addE p a P Q) R = addE p a P (addE p a Q R) := by
  rcases hasB_cases hP with rfl | ⟨x1, y1, rfl⟩
  · rw [addE_nil, addE_nil]
  rcases hasB_cases hQ with rfl | ⟨x2, y2, rfl⟩
  · rw [addE_nil, nil_addE hP]
  rcases hasB_cases hR with rfl | ⟨x3, y3, rfl⟩
  · rw [nil_addE (hasB_add h hP hQ), nil_addE hQ]
  by_cases n13 : x1 = x3 ∧ y1 = y3
  · obtain ⟨rfl, rfl⟩ := n13
    rw [addE_comm h hd (hasB_add h hP hQ) hR, addE_comm h hd hP hQ]
  by_cases n12 : x1 = x2 ∧ y1 = y2
  · obtain ⟨rfl, rfl⟩ := n12
    exact assoc_dbl h hd hP hR n13
  by_cases n23 : x2 = x3 ∧ y2 = y3
  · obtain ⟨rfl, rfl⟩ := n23
    have := assoc_dbl h hd hQ hP (fun e => n12 ⟨e.1.symm, e.2.symm⟩)
    rw [addE_comm h hd (hasB_add h hP hQ) hQ, addE_comm h hd hP hQ, addE_comm h hd hP (hasB_add h hQ hQ), this]
  exact assoc_dist h hd hP hQ hR n12 n13 n23
-- Plain laws: finite commutative groups; orders. No program.
/-- A commutative group. -/
structure Ab (α : Type) where
  add : α → α → α
  zero : α
  neg : α → α
  assoc : ∀ x y z, add (add x y) z = add x (add y z)
  comm : ∀ x y, add x y = add y x
  zero_add : ∀ x, add zero x = x
  neg_add : ∀ x, add (neg x) x = zero
namespace Ab
theorem add_zero {α : Type} (A : Ab α) (x : α) : A.add x A.zero = x := by rw [A.comm, A.zero_add]
theorem cancel {α : Type} (A : Ab α) {x y z : α} (h : A.add x y = A.add x z) : y = z := by
  have := congrArg (A.add (A.neg x)) h
  rwa [← A.assoc, ← A.assoc, A.neg_add, A.zero_add, A.zero_add] at this
/-- Multiples. -/
def nsm {α : Type} (A : Ab α) : Nat → α → α
  | 0, _ => A.zero
  | k + 1, x => A.add (nsm A k x) x
theorem nsm_add {α : Type} (A : Ab α) (j : Nat) (x : α) : ∀ k, A.nsm (j + k) x = A.add (A.nsm j x) (A.nsm k x)
  | 0 => (A.add_zero _).symm
  | k + 1 => by
    show A.add (A.nsm (j + k) x) x = A.add (A.nsm j x) (A.add (A.nsm k x) x)
    rw [nsm_add A j x k, A.assoc]
theorem nsm_one {α : Type} (A : Ab α) (x : α) : A.nsm 1 x = x := A.zero_add x
theorem nsm_zero {α : Type} (A : Ab α) : ∀ k, A.nsm k A.zero = A.zero
  | 0 => rfl
  | k + 1 => by show A.add (A.nsm k A.zero) A.zero = A.zero; rw [nsm_zero A k, A.zero_add]
theorem nsm_mul {α : Type} (A : Ab α) (j : Nat) (x : α) : ∀ k, A.nsm (j * k) x = A.nsm k (A.nsm j x)
  | 0 => rfl
  | k + 1 => by
    show A.nsm (j * (k + 1)) x = A.add (A.nsm k (A.nsm j x)) (A.nsm j x)
    rw [Nat.mul_succ, A.nsm_add, nsm_mul A j x k]
theorem nsm_sum {α : Type} (A : Ab α) (x y : α) : ∀ k, A.nsm k (A.add x y) = A.add (A.nsm k x) (A.nsm k y)
  | 0 => (A.zero_add _).symm
  | k + 1 => by
    show A.add (A.nsm k (A.add x y)) (A.add x y) = A.add (A.add (A.nsm k x) x) (A.add (A.nsm k y) y)
    rw [nsm_sum A x y k, A.assoc, A.assoc, ← A.assoc (A.nsm k y), A.comm (A.nsm k y) x, A.assoc]
/-- The order of an element. -/
structure Ord {α : Type} (A : Ab α) (x : α) (n : Nat) : Prop where
  pos : 1 ≤ n
  zero : A.nsm n x = A.zero
  least : ∀ k, 1 ≤ k → k < n → A.nsm k x ≠ A.zero
theorem nsm_mod {α : Type} {A : Ab α} {x : α} {n : Nat} (h : A.nsm n x = A.zero) (k : Nat) : A.nsm k x = A.nsm (k % n) x := by
  conv => lhs; rw [← Nat.div_add_mod k n]
  rw [A.nsm_add, A.nsm_mul, h, A.nsm_zero, A.zero_add]
theorem Ord.dvd {α : Type} {A : Ab α} {x : α} {n : Nat} (h : A.Ord x n) {k : Nat} (hk : A.nsm k x = A.zero) : n ∣ k := by
  rw [nsm_mod h.zero k] at hk
  by_cases e : k % n = 0
  · exact Nat.dvd_of_mod_eq_zero e
  · exact absurd hk (h.least _ (by omega) (Nat.mod_lt _ h.pos))
theorem Ord.unique {α : Type} {A : Ab α} {x : α} {n m : Nat} (h : A.Ord x n) (g : A.Ord x m) : n = m :=
  Nat.dvd_antisymm (h.dvd g.zero) (g.dvd h.zero)
theorem Ord.mul {α : Type} {A : Ab α} {x : α} {r s : Nat} (h : A.Ord x (s * r)) : A.Ord (A.nsm s x) r := by
  have hp := h.pos
  have hs : 1 ≤ s := Nat.pos_of_ne_zero fun e => by subst e; omega
  have hr : 1 ≤ r := Nat.pos_of_ne_zero fun e => by subst e; omega
  refine ⟨hr, by rw [← A.nsm_mul]; exact h.zero, fun k h1 h2 => ?_⟩
  rw [← A.nsm_mul]
  exact h.least _ (Nat.mul_pos hs h1) (Nat.mul_lt_mul_of_pos_left h2 hs)
theorem Ord.sum {α : Type} {A : Ab α} {x y : α} {r d : Nat} (h : A.Ord x r) (g : A.Ord y d) (hc : Nat.gcd r d = 1) : A.Ord (A.add x y) (r * d) := by
  refine ⟨Nat.mul_pos h.pos g.pos, ?_, fun k h1 h2 hk => ?_⟩
  · rw [A.nsm_sum, A.nsm_mul, h.zero, A.nsm_zero, A.zero_add, Nat.mul_comm, A.nsm_mul, g.zero, A.nsm_zero]
  · have e1 : A.nsm (k * r) (A.add x y) = A.zero := by rw [A.nsm_mul, hk, A.nsm_zero]
    rw [A.nsm_sum, Nat.mul_comm k r, A.nsm_mul r x, h.zero, A.nsm_zero, A.zero_add] at e1
    have e2 : A.nsm (k * d) (A.add x y) = A.zero := by rw [A.nsm_mul, hk, A.nsm_zero]
    rw [A.nsm_sum, Nat.mul_comm k d, A.nsm_mul d y, g.zero, A.nsm_zero, A.add_zero] at e2
    have d1 : d ∣ k := (Nat.Coprime.symm hc).dvd_of_dvd_mul_left (g.dvd e1)
    have d2 : r ∣ k := Nat.Coprime.dvd_of_dvd_mul_left hc (h.dvd e2)
    have := Nat.le_of_dvd h1 (Nat.Coprime.mul_dvd_of_dvd_of_dvd hc d2 d1)
    omega
end Ab
theorem expo_all : ((List.range 121).all fun m => (List.range 121).all fun n => (n == 0) || (m == 0) || (m % n == 0) || [2, 3, 5, 7, 11, 13, 17, 19, 23, 29, 31, 37, 41, 43, 47, 53, 59, 61, 67, 71, 73, 79, 83, 89, 97, 101, 103, 107, 109, 113, 4, 8, 16, 32, 64, 9, 27, 81, 25, 49].any fun d => (n % d == 0) && (let r := m / Nat.gcd m (d ^ 7); (m % r == 0) && (Nat.gcd r d == 1) && Nat.blt m (r * d))) = true := by decide +kernel
theorem expo {m n : Nat} (hm : m ≤ 120) (hn : n ≤ 120) (hm1 : 1 ≤ m) (hn1 : 1 ≤ n) (h : ¬ n ∣ m) : ∃ d r, d ∣ n ∧ r ∣ m ∧ Nat.gcd r d = 1 ∧ m < r * d := by
  have h1 := List.all_eq_true.1 (List.all_eq_true.1 expo_all m (List.mem_range.2 (by omega))) n (List.mem_range.2 (by omega))
  simp only [Bool.or_eq_true, beq_iff_eq] at h1
  rcases h1 with ((h1 | h1) | h1) | h1
  · omega
  · omega
  · exact absurd (Nat.dvd_of_mod_eq_zero h1) h
  · obtain ⟨d, _, hd⟩ := List.any_eq_true.1 h1
    simp only [Bool.and_eq_true, beq_iff_eq, Nat.blt_eq] at hd
    exact ⟨d, _, Nat.dvd_of_mod_eq_zero hd.1, Nat.dvd_of_mod_eq_zero hd.2.1.1, hd.2.1.2, hd.2.2⟩
/-- Where an order is the greatest of all, the others divide it. -/
theorem Ab.Ord.most {α : Type} {A : Ab α} {x y : α} {m n : Nat} (h : A.Ord x m) (g : A.Ord y n) (hm : m ≤ 120) (hn : n ≤ 120) (hA : ∀ z k, A.Ord z k → k ≤ m) : n ∣ m := by
  refine Classical.byContradiction fun hc => ?_
  obtain ⟨d, r, ⟨d', hd⟩, ⟨r', hr⟩, hg, hlt⟩ := expo hm hn h.pos g.pos hc
  have h1 : A.Ord (A.nsm r' x) r := by rw [hr, Nat.mul_comm] at h; exact h.mul
  have h2 : A.Ord (A.nsm d' y) d := by rw [hd, Nat.mul_comm] at g; exact g.mul
  have := hA _ _ (h1.sum h2 hg)
  omega
/-- A list in which a map goes in circles of one length. -/
theorem circles {α : Type} [DecidableEq α] (f : Nat → α → α) (N : Nat) (hN : 1 ≤ N) (h0 : ∀ x, f 0 x = x) (hadd : ∀ j k x, f (j + k) x = f k (f j x)) (hz : ∀ x, f N x = x) (hne : ∀ x k, 1 ≤ k → k < N → f k x ≠ x) :
    ∀ (n : Nat) (L : List α), L.length = n → L.Nodup → (∀ x ∈ L, ∀ k, f k x ∈ L) → N ∣ L.length := by
  intro n
  induction n using Nat.strongRecOn with
  | _ n ih =>
    intro L hn hd hcl
    cases L with
    | nil => simp
    | cons x L' =>
      have hback : ∀ k, k < N → ∀ y, f k y = f k y → f (N - k) (f k y) = y := fun k hk y _ => by rw [← hadd, show k + (N - k) = N by omega, hz]
      let O := (List.range N).map fun k => f k x
      have hO : ∀ y, y ∈ O ↔ ∃ k, k < N ∧ f k x = y := by intro y; simp [O]
      have hinj : ∀ i j, i < N → j < N → f i x = f j x → i ≤ j → i = j := by
        intro i j hi hj e hij
        refine Classical.byContradiction fun hc => ?_
        have : f (j - i) (f i x) = f i x := by rw [← hadd, show i + (j - i) = j by omega, e]
        exact hne _ _ (by omega) (by omega) this
      have hOd : O.Nodup := by
        refine List.nodup_iff_pairwise_ne.2 (List.pairwise_map.2 ?_)
        refine List.Pairwise.imp_of_mem (R := fun a b => a ≠ b) (fun {a b} ha hb hab e => hab ?_) (List.nodup_iff_pairwise_ne.1 List.nodup_range)
        rcases Nat.le_total a b with h | h
        · exact hinj a b (List.mem_range.1 ha) (List.mem_range.1 hb) e h
        · exact (hinj b a (List.mem_range.1 hb) (List.mem_range.1 ha) e.symm h).symm
      have hOl : O.length = N := by simp [O]
      let R := (x :: L').filter fun y => decide (y ∉ O)
      have hperm : (O ++ R).Perm (x :: L') := by
        refine (List.perm_ext_iff_of_nodup ?_ hd).2 fun y => ?_
        · refine List.nodup_append.2 ⟨hOd, hd.sublist List.filter_sublist, fun a ha b hb e => ?_⟩
          subst e
          have := (List.mem_filter.1 hb).2
          simp at this
          exact this ha
        · rw [List.mem_append, List.mem_filter]
          constructor
          · rintro (h | h)
            · obtain ⟨k, _, e⟩ := (hO y).1 h
              rw [← e]
              exact hcl x (List.mem_cons_self ..) k
            · exact h.1
          · intro h
            by_cases e : y ∈ O
            · exact .inl e
            · exact .inr ⟨h, by simpa using e⟩
      have hlen := hperm.length_eq
      rw [List.length_append, hOl] at hlen
      have hR : N ∣ R.length := by
        refine ih R.length (by omega) R rfl (hd.sublist List.filter_sublist) fun y hy k => ?_
        have h1 := List.mem_filter.1 hy
        have h2 : y ∉ O := by simpa using h1.2
        refine List.mem_filter.2 ⟨hcl y h1.1 k, ?_⟩
        simp only [decide_eq_true_eq]
        intro h3
        obtain ⟨j, hj, e⟩ := (hO _).1 h3
        apply h2
        -- go back
        have hk : ∀ q z, f (N * q) z = z := by
          intro q
          induction q with
          | zero => intro z; exact h0 z
          | succ q ihq => intro z; rw [Nat.mul_succ, hadd, ihq, hz]
        have e2 : f (N * k - k) (f k y) = y := by rw [← hadd, show k + (N * k - k) = N * k by have := Nat.le_mul_of_pos_left k hN; omega, hk]
        have e3 : y = f (j + (N * k - k)) x := by rw [hadd, e, e2]
        refine (hO y).2 ⟨(j + (N * k - k)) % N, Nat.mod_lt _ hN, ?_⟩
        rw [e3]
        conv => rhs; rw [← Nat.div_add_mod (j + (N * k - k)) N]
        rw [hadd, hk]
      rw [← hlen]
      exact Nat.dvd_add (Nat.dvd_refl N) hR
/-- The order of an element divides the number of elements. -/
theorem Ab.Ord.dvd_card {α : Type} [DecidableEq α] {A : Ab α} {x : α} {n : Nat} (h : A.Ord x n) (L : List α) (hd : L.Nodup) (hL : ∀ y, y ∈ L) : n ∣ L.length := by
  refine circles (fun k y => A.add y (A.nsm k x)) n h.pos (fun y => A.add_zero y) (fun j k y => ?_) (fun y => ?_) (fun y k h1 h2 e => ?_) _ L rfl hd (fun _ _ _ => hL _)
  · show A.add y (A.nsm (j + k) x) = A.add (A.add y (A.nsm j x)) (A.nsm k x)
    rw [A.nsm_add, A.assoc]
  · show A.add y (A.nsm n x) = y
    rw [h.zero, A.add_zero]
  · exact h.least k h1 h2 (A.cancel (x := y) (by rw [A.add_zero]; exact e))
-- Plain laws: the points of a curve as a group; all points. No program.
abbrev Ept (p a b : Int) := { l : List Int // hasB p a b l = true }
theorem hasB_neg {p a b : Int} {l : List Int} (h : fieldB p = true) (hl : hasB p a b l = true) : hasB p a b (negE p l) = true := by
  have hp := fieldB_facts h
  have hp0 : 0 < p := by omega
  rcases hasB_cases hl with rfl | ⟨x, y, rfl⟩
  · rfl
  · obtain ⟨gx, gy, gP⟩ := (hasB_two hp0).1 hl
    have n : negE p [x, y] = [x, -y % p] := by simp [negE, at']
    rw [n]
    refine (hasB_two hp0).2 ⟨gx, emod_b _ p hp0, ?_⟩
    have hm := eqp_mod p (-y)
    generalize -y % p = z at *
    have e : z * z - (x * x * x + a * x + b) = (z + -y) * (z - -y) + 1 * (y * y - (x * x * x + a * x + b)) := by grind
    unfold OnE eqp at *; rw [e]
    exact dvd2 _ _ hm gP
/-- The points of a curve. -/
def abE {p a b : Int} (h : fieldB p = true) (hd : disc p a b ≠ 0) : Ab (Ept p a b) where
  add P Q := ⟨addE p a P.1 Q.1, hasB_add h P.2 Q.2⟩
  zero := ⟨[], rfl⟩
  neg P := ⟨negE p P.1, hasB_neg h P.2⟩
  assoc x y z := Subtype.ext (addE_assoc h hd x.2 y.2 z.2)
  comm x y := Subtype.ext (addE_comm h hd x.2 y.2)
  zero_add x := Subtype.ext (addE_nil p a x.1)
  neg_add x := Subtype.ext (by
    show addE p a (negE p x.1) x.1 = []
    rcases hasB_cases x.2 with e | ⟨u, v, e⟩
    · rw [e]; rfl
    · rw [e, show negE p [u, v] = [u, -v % p] by simp [negE, at']]
      exact addE_opp ⟨rfl, neg_add p v⟩)
theorem it_nsm {p a b : Int} (h : fieldB p = true) (hd : disc p a b ≠ 0) (P : Ept p a b) : ∀ k, ((abE h hd).nsm (k + 1) P).1 = itE p a P.1 k
  | 0 => by rw [Ab.nsm_one]; rfl
  | k + 1 => by
    show addE p a ((abE h hd).nsm (k + 1) P).1 P.1 = addE p a (itE p a P.1 k) P.1
    rw [it_nsm h hd P k]
/-- The order, as the program counts it. -/
theorem ord_E {p a b : Int} (h : fieldB p = true) (hd : disc p a b ≠ 0) (P : Ept p a b) : (abE h hd).Ord P (ordN p a P.1 + 1) := by
  obtain ⟨_, h2, h3⟩ := ordN_facts h hd P.2
  refine ⟨by omega, Subtype.ext (by rw [it_nsm]; exact h2), fun k h1 hk e => ?_⟩
  obtain ⟨j, rfl⟩ : ∃ j, k = j + 1 := ⟨k - 1, by omega⟩
  refine h3 j (by omega) ?_
  rw [← it_nsm h hd P j, e]
  rfl
/-- Copies, added as the program adds them. -/
theorem mul_nsm {p a b : Int} (h : fieldB p = true) (hd : disc p a b ≠ 0) : ∀ (n : Nat) (O P : Ept p a b), mulE p a O.1 P.1 n = ((abE h hd).add O ((abE h hd).nsm n P)).1 := by
  intro n
  induction n using Nat.strongRecOn with
  | _ n ih =>
    intro O P
    rcases Nat.eq_zero_or_pos n with e | e
    · subst e
      rw [mulE_zero, show (abE h hd).nsm 0 P = (abE h hd).zero from rfl, Ab.add_zero]
    · have hs : (abE h hd).nsm (n / 2) ((abE h hd).add P P) = (abE h hd).nsm (n / 2 + n / 2) P := by rw [Ab.nsm_sum, Ab.nsm_add]
      by_cases g : n % 2 = 1
      · rw [mulE_odd g, show addE p a O.1 P.1 = ((abE h hd).add O P).1 from rfl, show addE p a P.1 P.1 = ((abE h hd).add P P).1 from rfl, ih _ (by omega), hs, Ab.assoc]
        congr 2
        have e2 : (abE h hd).nsm (1 + (n / 2 + n / 2)) P = (abE h hd).add P ((abE h hd).nsm (n / 2 + n / 2) P) := by rw [Ab.nsm_add, Ab.nsm_one]
        rw [← e2, show 1 + (n / 2 + n / 2) = n by omega]
      · rw [mulE_even e (by omega), show addE p a P.1 P.1 = ((abE h hd).add P P).1 from rfl, ih _ (by omega), hs, show n / 2 + n / 2 = n by omega]
theorem ptsI_mem (p a b : Int) (x : Nat) (acc : List (List Int)) : ∀ (y : Nat) (l : List Int), l ∈ ptsI p a b x acc y ↔ l ∈ acc ∨ ∃ z : Nat, z < y ∧ (z : Int) * (z : Int) % p = rightE p a b (x : Int) ∧ l = [(x : Int), (z : Int)]
  | 0, l => by simp [ptsI]
  | y + 1, l => by
    have ih := ptsI_mem p a b x acc y l
    simp only [ptsI]
    split
    · rename_i e
      rw [List.mem_append, ih, List.mem_singleton]
      constructor
      · rintro ((h | ⟨z, h1, h2⟩) | h)
        · exact .inl h
        · exact .inr ⟨z, by omega, h2⟩
        · exact .inr ⟨y, by omega, e, h⟩
      · rintro (h | ⟨z, h1, h2, h3⟩)
        · exact .inl (.inl h)
        · by_cases hz : z = y
          · subst hz; exact .inr h3
          · exact .inl (.inr ⟨z, by omega, h2, h3⟩)
    · rename_i e
      rw [ih]
      constructor
      · rintro (h | ⟨z, h1, h2⟩)
        · exact .inl h
        · exact .inr ⟨z, by omega, h2⟩
      · rintro (h | ⟨z, h1, h2, h3⟩)
        · exact .inl h
        · by_cases hz : z = y
          · subst hz; exact absurd h2 e
          · exact .inr ⟨z, by omega, h2, h3⟩
theorem ptsO_mem (p a b : Int) : ∀ (X : Nat) (l : List Int), l ∈ ptsO p a b X ↔ l = [] ∨ ∃ x z : Nat, x < X ∧ z < p.toNat ∧ (z : Int) * (z : Int) % p = rightE p a b (x : Int) ∧ l = [(x : Int), (z : Int)]
  | 0, l => by simp [ptsO]
  | X + 1, l => by
    have ih := ptsO_mem p a b X l
    simp only [ptsO]
    rw [ptsI_mem, ih]
    constructor
    · rintro ((h | ⟨x, z, h1, h2⟩) | ⟨z, h1, h2⟩)
      · exact .inl h
      · exact .inr ⟨x, z, by omega, h2⟩
      · exact .inr ⟨X, z, by omega, h1, h2⟩
    · rintro (h | ⟨x, z, h1, h2, h3⟩)
      · exact .inl (.inl h)
      · by_cases hx : x = X
        · subst hx; exact .inr ⟨z, h2, h3⟩
        · exact .inl (.inr ⟨x, z, by omega, h2, h3⟩)
theorem ptsI_nodup {p a b : Int} {x : Nat} {acc : List (List Int)} (hd : acc.Nodup) (hx : ∀ z : Nat, [(x : Int), (z : Int)] ∉ acc) : ∀ y, (ptsI p a b x acc y).Nodup
  | 0 => hd
  | y + 1 => by
    have ih := ptsI_nodup (p := p) (a := a) (b := b) hd hx y
    simp only [ptsI]
    split
    · refine List.nodup_append.2 ⟨ih, by simp, fun l hl m hm e => ?_⟩
      rw [List.mem_singleton.1 hm] at e
      subst e
      rcases (ptsI_mem p a b x acc y _).1 hl with h | ⟨z, h1, _, h3⟩
      · exact hx y h
      · simp at h3; omega
    · exact ih
theorem ptsO_nodup {p a b : Int} : ∀ X, (ptsO p a b X).Nodup
  | 0 => by simp [ptsO]
  | X + 1 => by
    refine ptsI_nodup (ptsO_nodup X) (fun z hz => ?_) _
    rcases (ptsO_mem p a b X _).1 hz with h | ⟨x, y, h1, _, _, h3⟩
    · simp at h
    · simp at h3; omega
theorem ptsL_mem {p a b : Int} (h : fieldB p = true) {l : List Int} (hl : hasB p a b l = true) : l ∈ ptsL p a b := by
  have hp := fieldB_facts h
  refine (ptsO_mem p a b _ l).2 ?_
  rcases hasB_cases hl with rfl | ⟨x, y, rfl⟩
  · exact .inl rfl
  · obtain ⟨gx, gy, _⟩ := (hasB_two (by omega)).1 hl
    refine .inr ⟨x.toNat, y.toNat, by omega, by omega, ?_, ?_⟩
    · have e := has_xy (p := p) (a := a) (b := b) (x := x.toNat) (y := y.toNat) (by omega) (by omega)
      rw [Int.toNat_of_nonneg gx.1, Int.toNat_of_nonneg gy.1] at e
      rw [hl] at e
      rw [Int.toNat_of_nonneg gx.1, Int.toNat_of_nonneg gy.1]
      exact beq_iff_eq.1 e.symm
    · rw [Int.toNat_of_nonneg gx.1, Int.toNat_of_nonneg gy.1]
/-- All points. -/
def ptsE {p : Int} (a b : Int) (h : 0 ≤ p) : List (Ept p a b) := (ptsL p a b).attachWith _ (ptsL_has h)
theorem ptsE_len {p a b : Int} (h : 0 ≤ p) : (ptsE a b h).length = (ptsL p a b).length := by simp [ptsE]
theorem ptsE_mem {p a b : Int} (h : fieldB p = true) (h0 : 0 ≤ p) (x : Ept p a b) : x ∈ ptsE a b h0 := by
  rw [ptsE, List.mem_attachWith]
  exact ptsL_mem h x.2
theorem nodup_of_map {α β : Type} (f : α → β) {L : List α} (h : (L.map f).Nodup) : L.Nodup := by
  rw [List.nodup_iff_pairwise_ne, List.pairwise_map] at h
  exact List.nodup_iff_pairwise_ne.2 (h.imp fun hab e => hab (by rw [e]))
theorem nodup_map {α β : Type} (f : α → β) (hf : ∀ x y, f x = f y → x = y) {L : List α} (h : L.Nodup) : (L.map f).Nodup := by
  rw [List.nodup_iff_pairwise_ne] at *
  exact List.pairwise_map.2 (h.imp fun hab e => hab (hf _ _ e))
theorem ptsE_nodup {p a b : Int} (h : 0 ≤ p) : (ptsE a b h).Nodup := by
  refine nodup_of_map Subtype.val ?_
  have : (ptsE a b h).map Subtype.val = ptsL p a b := by simp [ptsE]
  rw [this]
  exact ptsO_nodup _
/-- The order of a point divides the number of points. -/
theorem ord_count {p a b : Int} (h : fieldB p = true) (hd : disc p a b ≠ 0) (P : Ept p a b) {n : Nat} (hP : (abE h hd).Ord P n) : n ∣ (ptsL p a b).length := by
  have hp := fieldB_facts h
  rw [← ptsE_len (a := a) (b := b) (show 0 ≤ p by omega)]
  exact hP.dvd_card _ (ptsE_nodup _) (ptsE_mem h _)
theorem inj_len {α β : Type} [DecidableEq β] (f : α → β) (hf : ∀ x y, f x = f y → x = y) {L : List α} {M : List β} (hL : L.Nodup) (hM : M.Nodup) (hA : ∀ y, y ∈ M) : L.length ≤ M.length := by
  have h1 : (L.map f).Nodup := nodup_map f hf hL
  have h2 : (M.filter fun y => decide (y ∈ L.map f)).Perm (L.map f) := by
    refine (List.perm_ext_iff_of_nodup (hM.sublist List.filter_sublist) h1).2 fun y => ?_
    rw [List.mem_filter]
    simp only [decide_eq_true_eq]
    exact ⟨fun g => g.2, fun g => ⟨hA y, g⟩⟩
  have h3 := h2.length_eq
  rw [List.length_map] at h3
  rw [← h3]
  exact List.length_filter_le ..
-- Plain laws: isomorphic curves have the same points. No program.
theorem iso_on {p Y X a b y x A B u : Int} (hX : eqp p (X) (u*u*x)) (hY : eqp p (Y) (u*u*u*y)) (ha : eqp p (a) (A*(u*u*u*u))) (hb : eqp p (b) (B*(u*u*u*u*u*u))) (hP : eqp p (y*y) (x*x*x+A*x+B)) : eqp p (Y*Y) (X*X*X+a*X+b) := by
  have e : (Y*Y) - (X*X*X+a*X+b) = (-(X*X) - X*(u*u)*x - a - (u*u*u*u)*(x*x)) * ((X) - (u*u*x)) + (Y + (u*u*u)*y) * ((Y) - (u*u*u*y)) + (-(u*u)*x) * ((a) - (A*(u*u*u*u))) + (-1) * ((b) - (B*(u*u*u*u*u*u))) + ((u*u*u*u*u*u)) * ((y*y) - (x*x*x+A*x+B)) := by grind
  unfold eqp at *; rw [e]
  exact Int.dvd_add (Int.dvd_add (Int.dvd_add (Int.dvd_add (dvd1 _ hX) (dvd1 _ hY)) (dvd1 _ ha)) (dvd1 _ hb)) (dvd1 _ hP)
theorem iso_y {p Y X y l c x u : Int} (hX : eqp p (X) (u*u*x)) (hY : eqp p (Y) (u*u*u*y)) (hy : eqp p (y) (l*x+c)) : eqp p (Y) ((u*l)*X+u*u*u*c) := by
  have e : (Y) - ((u*l)*X+u*u*u*c) = (-l*u) * ((X) - (u*u*x)) + (1) * ((Y) - (u*u*u*y)) + ((u*u*u)) * ((y) - (l*x+c)) := by grind
  unfold eqp at *; rw [e]
  exact Int.dvd_add (Int.dvd_add (dvd1 _ hX) (dvd1 _ hY)) (dvd1 _ hy)
theorem iso_e1 {p X S W x l s w u : Int} (hX : eqp p (X) (u*u*x)) (hS : eqp p (S) (u*u*s)) (hW : eqp p (W) (u*u*w)) (e1 : eqp p (l*l) (x+s+w)) : eqp p ((u*l)*(u*l)) (X+S+W) := by
  have e : ((u*l)*(u*l)) - (X+S+W) = (-1) * ((X) - (u*u*x)) + (-1) * ((S) - (u*u*s)) + (-1) * ((W) - (u*u*w)) + ((u*u)) * ((l*l) - (x+s+w)) := by grind
  unfold eqp at *; rw [e]
  exact Int.dvd_add (Int.dvd_add (Int.dvd_add (dvd1 _ hX) (dvd1 _ hS)) (dvd1 _ hW)) (dvd1 _ e1)
theorem iso_e2 {p X S W a A x l s w c u : Int} (hX : eqp p (X) (u*u*x)) (hS : eqp p (S) (u*u*s)) (hW : eqp p (W) (u*u*w)) (ha : eqp p (a) (A*(u*u*u*u))) (e2 : eqp p (x*s+w*x+w*s) (A-2*l*c)) : eqp p (X*S+W*X+W*S) (a-2*(u*l)*(u*u*u*c)) := by
  have e : (X*S+W*X+W*S) - (a-2*(u*l)*(u*u*u*c)) = (S + W) * ((X) - (u*u*x)) + (W + (u*u)*x) * ((S) - (u*u*s)) + (s*(u*u) + (u*u)*x) * ((W) - (u*u*w)) + (-1) * ((a) - (A*(u*u*u*u))) + ((u*u*u*u)) * ((x*s+w*x+w*s) - (A-2*l*c)) := by grind
  unfold eqp at *; rw [e]
  exact Int.dvd_add (Int.dvd_add (Int.dvd_add (Int.dvd_add (dvd1 _ hX) (dvd1 _ hS)) (dvd1 _ hW)) (dvd1 _ ha)) (dvd1 _ e2)
theorem iso_e3 {p X S W b B x s w c u : Int} (hX : eqp p (X) (u*u*x)) (hS : eqp p (S) (u*u*s)) (hW : eqp p (W) (u*u*w)) (hb : eqp p (b) (B*(u*u*u*u*u*u))) (e3 : eqp p (x*s*w) (c*c-B)) : eqp p (X*S*W) ((u*u*u*c)*(u*u*u*c)-b) := by
  have e : (X*S*W) - ((u*u*u*c)*(u*u*u*c)-b) = (S*W) * ((X) - (u*u*x)) + (W*(u*u)*x) * ((S) - (u*u*s)) + (s*(u*u*u*u)*x) * ((W) - (u*u*w)) + (1) * ((b) - (B*(u*u*u*u*u*u))) + ((u*u*u*u*u*u)) * ((x*s*w) - (c*c-B)) := by grind
  unfold eqp at *; rw [e]
  exact Int.dvd_add (Int.dvd_add (Int.dvd_add (Int.dvd_add (dvd1 _ hX) (dvd1 _ hS)) (dvd1 _ hW)) (dvd1 _ hb)) (dvd1 _ e3)
/-- What u makes of a point. -/
def isoP (p u : Int) (l : List Int) : List Int := if l.length = 0 then [] else [u * u * at' l 0 % p, u * u * u * at' l 1 % p]
theorem isoP_two (p u x y : Int) : isoP p u [x, y] = [u * u * x % p, u * u * u * y % p] := by simp [isoP, at']
theorem isoP_has {p a b A B u : Int} (h : fieldB p = true) (ha : eqp p a (A*(u*u*u*u))) (hb : eqp p b (B*(u*u*u*u*u*u))) {l : List Int} (hl : hasB p A B l = true) : hasB p a b (isoP p u l) = true := by
  have hp := fieldB_facts h
  have hp0 : 0 < p := by omega
  rcases hasB_cases hl with rfl | ⟨x, y, rfl⟩
  · rfl
  · obtain ⟨gx, gy, gP⟩ := (hasB_two hp0).1 hl
    rw [isoP_two]
    exact (hasB_two hp0).2 ⟨emod_b _ p hp0, emod_b _ p hp0, iso_on (eqp_mod p _) (eqp_mod p _) ha hb gP⟩
theorem mul_ne {p x y : Int} (h : fieldB p = true) (hx : ¬ eqp p x 0) (hy : ¬ eqp p y 0) : ¬ eqp p (x * y) 0 := fun g => hy (no_zero h hx g)
theorem eqp_mul_left {p x y : Int} (u : Int) (h : eqp p x y) : eqp p (u * x) (u * y) := by
  have e : u * x - u * y = u * (x - y) := by grind
  unfold eqp at *; rw [e]
  exact dvd1 _ h
theorem eqp_cancel {p u x y : Int} (h : fieldB p = true) (hu : ¬ eqp p u 0) (g : eqp p (u * x) (u * y)) : eqp p x y := by
  refine eqp_0 (no_zero h hu ?_)
  have e : u * (x - y) - 0 = u * x - u * y := by grind
  unfold eqp at *; rw [e]
  exact g
theorem isoP_inj {p A B u : Int} (h : fieldB p = true) (hu : ¬ eqp p u 0) {l m : List Int} (hl : hasB p A B l = true) (hm : hasB p A B m = true) (e : isoP p u l = isoP p u m) : l = m := by
  have hp := fieldB_facts h
  have hp0 : 0 < p := by omega
  rcases hasB_cases hl with rfl | ⟨x, y, rfl⟩ <;> rcases hasB_cases hm with rfl | ⟨s, t, rfl⟩
  · rfl
  · rw [isoP_two] at e; simp [isoP] at e
  · rw [isoP_two] at e; simp [isoP] at e
  · obtain ⟨gx, gy, _⟩ := (hasB_two hp0).1 hl
    obtain ⟨gs, gt, _⟩ := (hasB_two hp0).1 hm
    rw [isoP_two, isoP_two] at e
    simp only [List.cons.injEq, and_true] at e
    have h2 := mul_ne h hu hu
    have e1 := eqp_eq gx.1 gx.2 gs.1 gs.2 (eqp_cancel h h2 (eqp_iff.2 e.1))
    have e2 := eqp_eq gy.1 gy.2 gt.1 gt.2 (eqp_cancel h (mul_ne h h2 hu) (eqp_iff.2 e.2))
    rw [e1, e2]
theorem isoP_add {p a b A B u : Int} (h : fieldB p = true) (hd : disc p a b ≠ 0) (ha : eqp p a (A*(u*u*u*u))) (hb : eqp p b (B*(u*u*u*u*u*u))) {l m : List Int} (hl : hasB p A B l = true) (hm : hasB p A B m = true) :
    addE p a (isoP p u l) (isoP p u m) = isoP p u (addE p A l m) := by
  have hp := fieldB_facts h
  have hp0 : 0 < p := by omega
  have kl := isoP_has h ha hb hl
  have km := isoP_has h ha hb hm
  rcases hasB_cases hl with rfl | ⟨x, y, rfl⟩
  · rw [addE_nil, show isoP p u [] = [] from rfl, addE_nil]
  rcases hasB_cases hm with rfl | ⟨s, t, rfl⟩
  · rw [nil_addE hl, show isoP p u [] = [] from rfl, nil_addE kl]
  by_cases hc : x = s ∧ (y + t) % p = 0
  · rw [addE_opp hc, isoP_two, isoP_two, hc.1]
    refine addE_opp ⟨rfl, ?_⟩
    have h1 := opp_eq hc.2
    have h2 : eqp p (u*u*u*y % p + u*u*u*t % p) 0 := by
      have m1 := eqp_mod p (u*u*u*y)
      have m2 := eqp_mod p (u*u*u*t)
      generalize u*u*u*y % p = Y at *
      generalize u*u*u*t % p = T at *
      have e : Y + T - 0 = 1 * (Y - u*u*u*y) + 1 * (T - u*u*u*t) + (u*u*u) * (y + t - 0) := by grind
      unfold eqp at *; rw [e]
      exact dvd3 _ _ _ m1 m2 h1
    have := eqp_iff.1 h2
    simpa using this
  · obtain ⟨l1, c1, w, z, gw, gz, L, e⟩ := lin_of h hl hm hc
    rw [e, isoP_two, isoP_two, isoP_two]
    rw [isoP_two] at kl km
    have mx := eqp_mod p (u*u*x)
    have ms := eqp_mod p (u*u*s)
    have mw := eqp_mod p (u*u*w)
    have mz := eqp_mod p (u*u*u*z)
    have L' : Lin p a b (u*l1) (u*u*u*c1) (u*u*x % p) (u*u*u*y % p) (u*u*s % p) (u*u*u*t % p) (u*u*w % p) (u*u*u*z % p) :=
      ⟨iso_y mx (eqp_mod p _) L.hy, iso_y ms (eqp_mod p _) L.hv, iso_y mw mz L.hz, iso_e1 mx ms mw L.e1, iso_e2 mx ms mw ha L.e2, iso_e3 mx ms mw hb L.e3⟩
    have gw' := emod_b (u*u*w) p hp0
    rw [add_lin h hd kl km L' gw'.1 gw'.2]
    have : -(u*u*u*z % p) % p = u*u*u*(-z % p) % p := by
      refine eqp_iff.1 ?_
      have m1 := eqp_mod p (-z)
      generalize u*u*u*z % p = Z at *
      generalize -z % p = z' at *
      have e : -Z - u*u*u*z' = -1 * (Z - u*u*u*z) + -(u*u*u) * (z' - -z) := by grind
      unfold eqp at *; rw [e]
      exact dvd2 _ _ mz m1
    rw [this]
theorem inv_pt {p a A u : Int} (h : fieldB p = true) (hu : ¬ eqp p u 0) (ha : eqp p a (A*(u*u*u*u))) : eqp p A (a*(invL p u*invL p u*invL p u*invL p u)) := by
  have hi := inv_mul h (ne_emod hu)
  generalize invL p u = v at *
  have e : A - a*(v*v*v*v) = -(v*v*v*v) * (a - A*(u*u*u*u)) + (-A*((v*u)*(v*u)*(v*u) + (v*u)*(v*u) + v*u + 1)) * (v*u - 1) := by grind
  unfold eqp at *; rw [e]
  exact dvd2 _ _ ha hi
theorem inv_pt6 {p b B u : Int} (h : fieldB p = true) (hu : ¬ eqp p u 0) (hb : eqp p b (B*(u*u*u*u*u*u))) : eqp p B (b*(invL p u*invL p u*invL p u*invL p u*invL p u*invL p u)) := by
  have hi := inv_mul h (ne_emod hu)
  generalize invL p u = v at *
  have e : B - b*(v*v*v*v*v*v) = -(v*v*v*v*v*v) * (b - B*(u*u*u*u*u*u)) + (-B*((v*u)*(v*u)*(v*u)*(v*u)*(v*u) + (v*u)*(v*u)*(v*u)*(v*u) + (v*u)*(v*u)*(v*u) + (v*u)*(v*u) + v*u + 1)) * (v*u - 1) := by grind
  unfold eqp at *; rw [e]
  exact dvd2 _ _ hb hi
theorem inv_ne {p u : Int} (h : fieldB p = true) (hu : ¬ eqp p u 0) : ¬ eqp p (invL p u) 0 := by
  have hp := fieldB_facts h
  have hi := inv_mul h (ne_emod hu)
  intro g
  have h1 : eqp p 1 0 := by
    generalize invL p u = v at *
    have e : (1 : Int) - 0 = -1 * (v*u - 1) + u * (v - 0) := by grind
    unfold eqp at *; rw [e]
    exact dvd2 _ _ hi g
  have := eqp_iff.1 h1
  rw [Int.emod_eq_of_lt (by omega) (by omega)] at this
  simp at this
/-- Isomorphic curves have equally many points. -/
theorem iso_le {p a b A B u : Int} (h : fieldB p = true) (hu : ¬ eqp p u 0) (ha : eqp p a (A*(u*u*u*u))) (hb : eqp p b (B*(u*u*u*u*u*u))) : (ptsL p A B).length ≤ (ptsL p a b).length := by
  have hp := fieldB_facts h
  have h0 : 0 ≤ p := by omega
  rw [← ptsE_len (a := A) (b := B) h0, ← ptsE_len (a := a) (b := b) h0]
  exact inj_len (fun P : Ept p A B => (⟨isoP p u P.1, isoP_has h ha hb P.2⟩ : Ept p a b)) (fun x y e => Subtype.ext (isoP_inj h hu x.2 y.2 (Subtype.mk.inj e))) (ptsE_nodup h0) (ptsE_nodup h0) (ptsE_mem h h0)
theorem iso_len {p a b A B u : Int} (h : fieldB p = true) (hu : ¬ eqp p u 0) (ha : eqp p a (A*(u*u*u*u))) (hb : eqp p b (B*(u*u*u*u*u*u))) : (ptsL p A B).length = (ptsL p a b).length :=
  Nat.le_antisymm (iso_le h hu ha hb) (iso_le h (inv_ne h hu) (inv_pt h hu ha) (inv_pt6 h hu hb))
/-- An order goes over to an isomorphic curve. -/
theorem iso_ord {p a b A B u : Int} (h : fieldB p = true) (hd : disc p a b ≠ 0) (hD : disc p A B ≠ 0) (hu : ¬ eqp p u 0) (ha : eqp p a (A*(u*u*u*u))) (hb : eqp p b (B*(u*u*u*u*u*u))) {P : Ept p A B} {n : Nat} (hP : (abE h hD).Ord P n) :
    ∃ Q : Ept p a b, (abE h hd).Ord Q n := by
  let f : Ept p A B → Ept p a b := fun P => ⟨isoP p u P.1, isoP_has h ha hb P.2⟩
  have hf : ∀ k, (abE h hd).nsm k (f P) = f ((abE h hD).nsm k P) := by
    intro k
    induction k with
    | zero => rfl
    | succ k ih =>
      show (abE h hd).add ((abE h hd).nsm k (f P)) (f P) = f ((abE h hD).add ((abE h hD).nsm k P) P)
      rw [ih]
      exact Subtype.ext (isoP_add h hd ha hb ((abE h hD).nsm k P).2 P.2)
  refine ⟨f P, hP.pos, ?_, fun k h1 h2 e => hP.least k h1 h2 ?_⟩
  · rw [hf, hP.zero]; rfl
  · rw [hf] at e
    exact Subtype.ext (isoP_inj h hu ((abE h hD).nsm k P).2 rfl (Subtype.mk.inj e))
-- Plain laws: counting points and orders, quickly. No program.
/-- How many numbers have a square, told by Euler's test. -/
def sqn (p v : Nat) : Nat := bif Nat.beq v 0 then 1 else bif Nat.beq (v ^ ((p - 1) / 2) % p) 1 then 2 else 0
/-- The number of points, x from 0 on. -/
def cS (p a b : Nat) : Nat → Nat
  | 0 => 1
  | x + 1 => cS p a b x + sqn p ((x * x * x + a * x + b) % p)
/-- The third point, with its slope. -/
def slF (p x y u s w : Nat) : Nat := 1 + w + 128 * ((s * (x + (p - w)) + (p - y)) % p)
def slG (p x y u s : Nat) : Nat := slF p x y u s ((s * s + (p - x) + (p - u)) % p)
/-- A sum of points, as a number: 0 is the zero point. -/
def stp (p a x y u v : Nat) : Nat := bif Nat.beq x u then (bif Nat.beq ((y + v) % p) 0 then 0 else slG p x y u ((3 * x * x + a) * (2 * y) ^ (p - 2) % p)) else slG p x y u ((v + (p - y)) * (u + (p - x)) ^ (p - 2) % p)
/-- The order of a point. -/
def scan (p a u v : Nat) : Nat → Nat → Nat → Nat
  | 0, _, _ => 0
  | f + 1, c, k => bif Nat.beq c 0 then k else scan p a u v f (stp p a ((c - 1) % 128) ((c - 1) / 128) u v) (k + 1)
def okN (p n e : Nat) : Bool := Nat.ble ((p + 1 - n) * (p + 1 - n) + (n - (p + 1)) * (n - (p + 1))) (4 * p) && !Nat.beq e 0 && Nat.beq (n % e) 0 && Nat.beq (e % (n / e)) 0
def onP (p a b x y : Nat) : Bool := Nat.blt x p && Nat.blt y p && Nat.beq (y * y % p) ((x * x * x + a * x + b) % p)
/-- A curve and a point of it whose order is great. -/
def okW (p a b c : Nat) : Bool := bif Nat.beq ((4 * a ^ 3 + 27 * b ^ 2) % p) 0 then true else
  (Nat.beq c 0 || onP p a b ((c - 1) % 128) ((c - 1) / 128)) && okN p (cS p a b p) (scan p a ((c - 1) % 128) ((c - 1) / 128) 128 c 1)
def chk1 (p d e : Nat) : List Nat → Nat → Bool
  | [], c => Nat.beq c p
  | w :: ws, c => okW p (c * d % p) (c * e % p) w && chk1 p d e ws (c + 1)
def chk2 (p d e : Nat) : List (Nat × Nat) → Bool
  | [] => true
  | w :: ws => okW p (w.1 * d) (w.1 * e) w.2 && chk2 p d e ws
def cnN (p r : Nat) : Nat → Nat
  | 0 => 0
  | y + 1 => bif Nat.beq (y * y % p) r then cnN p r y + 1 else cnN p r y
theorem sq_all : ((List.range 98).all fun p => !(fieldB (p : Int)) || (List.range p).all fun r => Nat.beq (cnN p r p) (sqn p r)) = true := by decide +kernel
theorem sq_fact {p r : Nat} (h : fieldB (p : Int) = true) (hr : r < p) : cnN p r p = sqn p r := by
  have hp := fieldB_facts h
  have h1 := List.all_eq_true.1 sq_all p (List.mem_range.2 (by omega))
  rw [h] at h1
  simp only [Bool.not_true, Bool.false_or] at h1
  exact Nat.eq_of_beq_eq_true (List.all_eq_true.1 h1 r (List.mem_range.2 hr))
theorem fer_all : ((List.range 98).all fun p => !(fieldB (p : Int)) || (List.range (2 * p)).all fun z => Nat.beq (z % p) 0 || Nat.beq (z ^ (p - 2) * z % p) 1) = true := by decide +kernel
theorem fer_fact {p z : Nat} (h : fieldB (p : Int) = true) (hz : z < 2 * p) (h0 : ¬ eqp (p : Int) (z : Int) 0) : eqp (p : Int) (((z ^ (p - 2) : Nat) : Int) * (z : Int)) 1 := by
  have hp := fieldB_facts h
  have h1 := List.all_eq_true.1 fer_all p (List.mem_range.2 (by omega))
  rw [h] at h1
  simp only [Bool.not_true, Bool.false_or] at h1
  have h2 := List.all_eq_true.1 h1 z (List.mem_range.2 hz)
  rw [Bool.or_eq_true] at h2
  rcases h2 with h2 | h2
  · refine absurd (eqp_iff.2 ?_) h0
    have := Nat.eq_of_beq_eq_true h2
    rw [Int.zero_emod, ← Int.natCast_emod, this]
    rfl
  · have := Nat.eq_of_beq_eq_true h2
    refine eqp_iff.2 ?_
    rw [← Int.natCast_mul, ← Int.natCast_emod, this, Int.emod_eq_of_lt (by omega) (by omega)]
    rfl
theorem right_nat (p a b x : Nat) : rightE (p : Int) (a : Int) (b : Int) (x : Int) = (((x * x * x + a * x + b) % p : Nat) : Int) := by
  unfold rightE
  rw [Int.natCast_emod, Int.natCast_add, Int.natCast_add, Int.natCast_mul, Int.natCast_mul, Int.natCast_mul]
  congr 1
  grind
theorem ptsI_cn (p a b x : Nat) (acc : List (List Int)) : ∀ y, (ptsI (p : Int) (a : Int) (b : Int) x acc y).length = acc.length + cnN p ((x * x * x + a * x + b) % p) y
  | 0 => by simp [ptsI, cnN]
  | y + 1 => by
    have ih := ptsI_cn p a b x acc y
    simp only [ptsI, cnN]
    rw [right_nat]
    by_cases e : y * y % p = (x * x * x + a * x + b) % p
    · have e2 : (y : Int) * (y : Int) % (p : Int) = (((x * x * x + a * x + b) % p : Nat) : Int) := by rw [← e, Int.natCast_emod, Int.natCast_mul]
      rw [if_pos e2, List.length_append, ih, show Nat.beq (y * y % p) ((x * x * x + a * x + b) % p) = true by rw [e]; exact Nat.beq_refl _]
      simp only [cond_true, List.length_cons, List.length_nil]
      omega
    · have e2 : ¬ (y : Int) * (y : Int) % (p : Int) = (((x * x * x + a * x + b) % p : Nat) : Int) := by
        intro g
        rw [← Int.natCast_mul, ← Int.natCast_emod] at g
        exact e (Int.ofNat_inj.1 g)
      rw [if_neg e2, ih, show Nat.beq (y * y % p) ((x * x * x + a * x + b) % p) = false by
        cases g : Nat.beq (y * y % p) ((x * x * x + a * x + b) % p)
        · rfl
        · exact absurd (Nat.eq_of_beq_eq_true g) e]
      rfl
theorem ptsO_cS {p a b : Nat} (h : fieldB (p : Int) = true) : ∀ X, (ptsO (p : Int) (a : Int) (b : Int) X).length = cS p a b X
  | 0 => rfl
  | X + 1 => by
    have hp := fieldB_facts h
    simp only [ptsO, cS]
    rw [ptsI_cn, ptsO_cS h X, Int.toNat_natCast, sq_fact h (Nat.mod_lt _ (by omega))]
theorem pts_cS {p a b : Nat} (h : fieldB (p : Int) = true) : (ptsL (p : Int) (a : Int) (b : Int)).length = cS p a b p := by
  rw [ptsL, Int.toNat_natCast, ptsO_cS h]
/-- The point of a number. -/
def decP (c : Nat) : List Int := if c = 0 then [] else [((c - 1) % 128 : Nat), ((c - 1) / 128 : Nat)]
theorem decP_mk {w z : Nat} (hw : w < 128) : decP (1 + w + 128 * z) = [(w : Int), (z : Int)] := by
  unfold decP
  rw [if_neg (by omega), show 1 + w + 128 * z - 1 = w + 128 * z by omega, Nat.add_mul_mod_self_left, Nat.mod_eq_of_lt hw, Nat.add_mul_div_left _ _ (by omega), Nat.div_eq_of_lt hw, Nat.zero_add]
theorem cast_mod {p n : Nat} {z : Int} (h : eqp (p : Int) (n : Int) z) : ((n % p : Nat) : Int) = z % (p : Int) := by
  rw [Int.natCast_emod]
  exact eqp_iff.1 h
theorem slG_ok {p x y u s : Nat} {S : Int} (h5 : 5 ≤ p) (h97 : p ≤ 97) (hx : x < p) (hy : y < p) (hu : u < p) (hS : eqp (p : Int) (s : Int) S) :
    decP (slG p x y u s) = [(S * S - x - u) % (p : Int), (S * ((x : Int) - (S * S - x - u) % (p : Int)) - y) % (p : Int)] := by
  have hw : (s * s + (p - x) + (p - u)) % p < p := Nat.mod_lt _ (by omega)
  unfold slG slF
  rw [decP_mk (by omega)]
  have e1 : (((s * s + (p - x) + (p - u)) % p : Nat) : Int) = (S * S - x - u) % (p : Int) := by
    refine cast_mod ?_
    rw [Int.natCast_add, Int.natCast_add, Int.natCast_mul, Int.ofNat_sub (by omega), Int.ofNat_sub (by omega)]
    have e : (s : Int) * s + ((p : Int) - x) + ((p : Int) - u) - (S * S - x - u) = ((s : Int) + S) * ((s : Int) - S) + 2 * (p : Int) := by grind
    unfold eqp at *; rw [e]
    exact Int.dvd_add (dvd1 _ hS) (dvd1 _ (Int.dvd_refl _))
  have e2 : (((s * (x + (p - (s * s + (p - x) + (p - u)) % p)) + (p - y)) % p : Nat) : Int) = (S * ((x : Int) - (S * S - x - u) % (p : Int)) - y) % (p : Int) := by
    refine cast_mod ?_
    rw [Int.natCast_add, Int.natCast_mul, Int.natCast_add, Int.ofNat_sub (by omega), Int.ofNat_sub (by omega), e1]
    generalize (S * S - x - u) % (p : Int) = W
    have e : (s : Int) * ((x : Int) + ((p : Int) - W)) + ((p : Int) - y) - (S * ((x : Int) - W) - y) = ((x : Int) - W) * ((s : Int) - S) + ((s : Int) + 1) * (p : Int) := by grind
    unfold eqp at *; rw [e]
    exact Int.dvd_add (dvd1 _ hS) (dvd1 _ (Int.dvd_refl _))
  rw [e1, e2]
theorem stp_ok {p a x y u v : Nat} {b : Int} (h : fieldB (p : Int) = true) (hP : hasB (p : Int) (a : Int) b [(x : Int), (y : Int)] = true) (hQ : hasB (p : Int) (a : Int) b [(u : Int), (v : Int)] = true) :
    decP (stp p a x y u v) = addE (p : Int) (a : Int) [(x : Int), (y : Int)] [(u : Int), (v : Int)] := by
  have hp := fieldB_facts h
  have hp0 : (0 : Int) < (p : Int) := by omega
  obtain ⟨gx, gy, gP⟩ := (hasB_two hp0).1 hP
  obtain ⟨gu, gv, gX⟩ := (hasB_two hp0).1 hQ
  by_cases hc : (x : Int) = (u : Int) ∧ ((y : Int) + (v : Int)) % (p : Int) = 0
  · rw [addE_opp hc]
    have e1 : Nat.beq x u = true := by rw [show x = u by omega]; exact Nat.beq_refl _
    have e2 : Nat.beq ((y + v) % p) 0 = true := by
      have h' := hc.2
      rw [← Int.natCast_add, ← Int.natCast_emod] at h'
      rw [show (y + v) % p = 0 by omega]; rfl
    simp only [stp, e1, e2, cond_true]
    rfl
  · obtain ⟨w, z, he, hw, hz⟩ := addE_two (p := (p : Int)) (a := (a : Int)) hc
    rw [he, hw] at *
    rw [hz, hw]
    by_cases hx : x = u
    · subst hx
      have hne : ((y : Int) + (v : Int)) % (p : Int) ≠ 0 := fun e => hc ⟨rfl, e⟩
      have hyv : y = v := by have := same_x h gP gX gy.1 gy.2 gv.1 gv.2 hne; omega
      subst hyv
      have e2 : Nat.beq ((y + y) % p) 0 = false := by
        cases g : Nat.beq ((y + y) % p) 0
        · rfl
        · exact absurd (by rw [← Int.natCast_add, ← Int.natCast_emod, Nat.eq_of_beq_eq_true g]; rfl) hne
      have h2 : ¬ eqp (p : Int) (2 * (y : Int)) 0 := y_two h (opp_ne hne)
      have hs := slope_tang (a := (a : Int)) (x := (x : Int)) (v := (y : Int)) h h2
      have hf := fer_fact (z := 2 * y) h (by omega) (by rw [Int.natCast_mul]; exact h2)
      simp only [stp, e2, Nat.beq_refl, cond_true, cond_false]
      refine slG_ok (by omega) (by omega) (by omega) (by omega) (by omega) ?_
      refine eqp_cancel h h2 ?_
      have m := eqp_mod (p : Int) ((3 * (x : Int) * x + a) * (((2 * y) ^ (p - 2) : Nat) : Int))
      rw [Int.natCast_emod, Int.natCast_mul, Int.natCast_add, Int.natCast_mul, Int.natCast_mul]
      rw [Int.natCast_mul] at hf
      generalize (((2 * y) ^ (p - 2) : Nat) : Int) = i at *
      generalize slopeE (p : Int) (a : Int) (x : Int) (y : Int) (x : Int) (y : Int) = S at *
      rw [show ((3 : Nat) : Int) = 3 from rfl] at *
      rw [show ((2 : Nat) : Int) = 2 from rfl] at *
      generalize (3 * (x : Int) * x + a) * i % (p : Int) = t at *
      have e : 2 * (y : Int) * t - 2 * (y : Int) * S = (2 * (y : Int)) * (t - (3 * (x : Int) * x + a) * i) + (3 * (x : Int) * x + a) * (i * (2 * (y : Int)) - 1) + -1 * (S * (2 * (y : Int)) - (3 * (x : Int) * x + a)) := by grind
      unfold eqp at *; rw [e]
      exact dvd3 _ _ _ m hf hs
    · have e1 : Nat.beq x u = false := by
        cases g : Nat.beq x u
        · rfl
        · exact absurd (Nat.eq_of_beq_eq_true g) hx
      have hxi : (x : Int) ≠ (u : Int) := fun e => hx (by omega)
      have hs := slope_chord (a := (a : Int)) (y := (y : Int)) (v := (v : Int)) h gx.1 gx.2 gu.1 gu.2 hxi
      have hne := sub_ne gx.1 gx.2 gu.1 gu.2 hxi
      have hcast : (((u + (p - x) : Nat)) : Int) = (u : Int) + ((p : Int) - x) := by rw [Int.natCast_add, Int.ofNat_sub (by omega)]
      have hf := fer_fact (z := u + (p - x)) h (by omega) (by
        rw [hcast]
        intro g
        apply hne
        have e : (x : Int) - u - 0 = -1 * ((u : Int) + ((p : Int) - x) - 0) + 1 * (p : Int) := by grind
        unfold eqp at *; rw [e]
        exact dvd2 _ _ g (Int.dvd_refl _))
      simp only [stp, e1, cond_false]
      refine slG_ok (by omega) (by omega) (by omega) (by omega) (by omega) ?_
      refine eqp_cancel h hne ?_
      have m := eqp_mod (p : Int) (((v : Int) + ((p : Int) - y)) * (((u + (p - x)) ^ (p - 2) : Nat) : Int))
      rw [Int.natCast_emod, Int.natCast_mul, Int.natCast_add, Int.ofNat_sub (by omega)]
      rw [hcast] at hf
      generalize (((u + (p - x)) ^ (p - 2) : Nat) : Int) = i at *
      generalize slopeE (p : Int) (a : Int) (x : Int) (y : Int) (u : Int) (v : Int) = S at *
      generalize ((v : Int) + ((p : Int) - y)) * i % (p : Int) = t at *
      have e : ((x : Int) - u) * t - ((x : Int) - u) * S = ((x : Int) - u) * (t - ((v : Int) + ((p : Int) - y)) * i) + -((v : Int) - y) * (i * ((u : Int) + ((p : Int) - x)) - 1) + -1 * (S * ((x : Int) - u) - ((y : Int) - v)) + (i * ((v : Int) - y) + ((x : Int) - u) * i) * (p : Int) := by grind
      unfold eqp at *; rw [e]
      exact Int.dvd_add (dvd3 _ _ _ m hf hs) (dvd1 _ (Int.dvd_refl _))
-- Plain laws: a point of great order on every curve. No program.
theorem decP_some {c : Nat} (h : c ≠ 0) : decP c = [(((c - 1) % 128 : Nat) : Int), (((c - 1) / 128 : Nat) : Int)] := by rw [decP, if_neg h]
theorem beq_f {a b : Nat} (h : a ≠ b) : Nat.beq a b = false := by
  cases g : Nat.beq a b
  · rfl
  · exact absurd (Nat.eq_of_beq_eq_true g) h
theorem scan_ok {p a u v : Nat} {b : Int} (h : fieldB (p : Int) = true) (hP : hasB (p : Int) (a : Int) b [(u : Int), (v : Int)] = true) : ∀ (f c k : Nat), 1 ≤ k → decP c = itE (p : Int) (a : Int) [(u : Int), (v : Int)] (k - 1) → (∀ j, j + 1 < k → itE (p : Int) (a : Int) [(u : Int), (v : Int)] j ≠ []) → scan p a u v f c k ≠ 0 →
    1 ≤ scan p a u v f c k ∧ itE (p : Int) (a : Int) [(u : Int), (v : Int)] (scan p a u v f c k - 1) = [] ∧ ∀ j, j + 1 < scan p a u v f c k → itE (p : Int) (a : Int) [(u : Int), (v : Int)] j ≠ []
  | 0, c, k, _, _, _, hz => absurd rfl hz
  | f + 1, c, k, hk, hc, hl, hz => by
    by_cases e : c = 0
    · subst e
      have e1 : scan p a u v (f + 1) 0 k = k := rfl
      rw [e1]
      exact ⟨hk, hc.symm, hl⟩
    · have e1 : scan p a u v (f + 1) c k = scan p a u v f (stp p a ((c - 1) % 128) ((c - 1) / 128) u v) (k + 1) := by
        simp only [scan, beq_f e, cond_false]
      rw [e1] at hz ⊢
      have hon := itE_has h hP (k - 1)
      rw [← hc] at hon
      rw [decP_some e] at hc hon
      refine scan_ok h hP f _ (k + 1) (by omega) ?_ ?_ hz
      · rw [stp_ok h hon hP, show k + 1 - 1 = (k - 1) + 1 by omega]
        show addE _ _ _ _ = addE _ _ (itE _ _ _ (k - 1)) _
        rw [hc]
      · intro j hj
        by_cases g : j + 1 < k
        · exact hl j g
        · rw [show j = k - 1 by omega, ← hc]
          simp
/-- The curve has a point whose order is great. -/
def GoodC (p a b : Int) : Prop := ∀ (h : fieldB p = true) (hd : disc p a b ≠ 0), ∃ (e : Nat) (P : Ept p a b), (abE h hd).Ord P e ∧ okN p.toNat (ptsL p a b).length e = true
theorem disc_nat (p a b : Nat) : disc (p : Int) (a : Int) (b : Int) = (((4 * a ^ 3 + 27 * b ^ 2) % p : Nat) : Int) := by
  unfold disc
  rw [Int.natCast_emod, Int.natCast_add, Int.natCast_mul, Int.natCast_mul, Int.natCast_pow, Int.natCast_pow]
  rfl
theorem okW_good {p a b c : Nat} (hw : okW p a b c = true) : GoodC (p : Int) (a : Int) (b : Int) := by
  intro h hd
  have hp := fieldB_facts h
  have hp0 : (0 : Int) < (p : Int) := by omega
  have hd0 : (4 * a ^ 3 + 27 * b ^ 2) % p ≠ 0 := fun e => hd (by rw [disc_nat, e]; rfl)
  simp only [okW, beq_f hd0, cond_false, Bool.and_eq_true, Bool.or_eq_true] at hw
  obtain ⟨hon, hok⟩ := hw
  rw [← pts_cS h] at hok
  by_cases e : c = 0
  · subst e
    refine ⟨1, (abE h hd).zero, ⟨by omega, rfl, fun k h1 h2 => by omega⟩, ?_⟩
    rw [Int.toNat_natCast]
    exact hok
  · have hon2 : onP p a b ((c - 1) % 128) ((c - 1) / 128) = true := by
      rcases hon with g | g
      · exact absurd (Nat.eq_of_beq_eq_true g) e
      · exact g
    simp only [onP, Bool.and_eq_true, Nat.blt_eq] at hon2
    obtain ⟨⟨h1, h2⟩, h3⟩ := hon2
    have h3 := Nat.eq_of_beq_eq_true h3
    have hP : hasB (p : Int) (a : Int) (b : Int) (decP c) = true := by
      rw [decP_some e, has_xy (by omega) (by omega), right_nat, ← Int.natCast_mul, ← Int.natCast_emod, h3]
      simp
    have hz : scan p a ((c - 1) % 128) ((c - 1) / 128) 128 c 1 ≠ 0 := by
      intro g
      rw [g] at hok
      simp [okN] at hok
    have hP2 := hP
    rw [decP_some e] at hP2
    obtain ⟨s1, s2, s3⟩ := scan_ok h hP2 128 c 1 (by omega) (by rw [decP_some e]; rfl) (fun j hj => by omega) hz
    generalize scan p a ((c - 1) % 128) ((c - 1) / 128) 128 c 1 = n at *
    refine ⟨n, ⟨decP c, hP⟩, ⟨s1, Subtype.ext ?_, fun k k1 k2 g => ?_⟩, by rw [Int.toNat_natCast]; exact hok⟩
    · rw [show n = (n - 1) + 1 by omega, it_nsm, show (⟨decP c, hP⟩ : Ept (p : Int) (a : Int) (b : Int)).1 = decP c from rfl, decP_some e]
      exact s2
    · refine s3 (k - 1) (by omega) ?_
      have g2 := congrArg Subtype.val g
      rw [show k = (k - 1) + 1 by omega, it_nsm, show (⟨decP c, hP⟩ : Ept (p : Int) (a : Int) (b : Int)).1 = decP c from rfl, decP_some e] at g2
      exact g2
theorem disc_0 {p a b : Int} : disc p a b = 0 ↔ eqp p (4 * a ^ 3 + 27 * b ^ 2) 0 := by
  unfold disc
  rw [eqp_iff, Int.zero_emod]
theorem disc_iso {p a b A B u : Int} (ha : eqp p a (A*(u*u*u*u))) (hb : eqp p b (B*(u*u*u*u*u*u))) : eqp p (4 * a ^ 3 + 27 * b ^ 2) ((u*u*u*u*u*u*u*u*u*u*u*u) * (4 * A ^ 3 + 27 * B ^ 2)) := by
  have e : 4 * a ^ 3 + 27 * b ^ 2 - (u*u*u*u*u*u*u*u*u*u*u*u) * (4 * A ^ 3 + 27 * B ^ 2) = (4 * (a * a + a * (A*(u*u*u*u)) + (A*(u*u*u*u)) * (A*(u*u*u*u)))) * (a - A*(u*u*u*u)) + (27 * (b + B*(u*u*u*u*u*u))) * (b - B*(u*u*u*u*u*u)) := by grind
  unfold eqp at *; rw [e]
  exact dvd2 _ _ ha hb
theorem disc_iso_ne {p a b A B u : Int} (ha : eqp p a (A*(u*u*u*u))) (hb : eqp p b (B*(u*u*u*u*u*u))) (hd : disc p a b ≠ 0) : disc p A B ≠ 0 := by
  intro e
  apply hd
  rw [disc_0] at *
  refine eqp_trans (disc_iso ha hb) ?_
  have := eqp_mul_left (u*u*u*u*u*u*u*u*u*u*u*u) e
  rwa [Int.mul_zero] at this
theorem GoodC.iso {p a b A B u : Int} (hu : ¬ eqp p u 0) (ha : eqp p a (A*(u*u*u*u))) (hb : eqp p b (B*(u*u*u*u*u*u))) (hg : GoodC p A B) : GoodC p a b := by
  intro h hd
  obtain ⟨e, P, h1, h2⟩ := hg h (disc_iso_ne ha hb hd)
  obtain ⟨Q, h3⟩ := iso_ord h hd _ hu ha hb h1
  exact ⟨e, Q, h3, by rw [← iso_len h hu ha hb]; exact h2⟩
/-- A table of curves and points: its curves are those of the prime number, up to isomorphism. -/
def tabOk (p g : Nat) (T1 T2 : List Nat) (TB TA : List (Nat × Nat)) : Bool :=
  chk1 p 1 1 T1 1 && chk1 p (g * g % p) (g * g * g % p) T2 1 && chk2 p 0 1 TB && chk2 p 1 0 TA &&
  ((List.range p).all fun d => Nat.beq d 0 || (List.range p).any fun u => !(Nat.beq u 0) && (Nat.beq (u * u % p) d || Nat.beq (g * u * u % p) d)) &&
  ((List.range p).all fun b => Nat.beq b 0 || TB.any fun w => (List.range p).any fun u => !(Nat.beq u 0) && Nat.beq (w.1 * (u * u * u * u * u * u) % p) b) &&
  ((List.range p).all fun a => Nat.beq a 0 || TA.any fun w => (List.range p).any fun u => !(Nat.beq u 0) && Nat.beq (w.1 * (u * u * u * u) % p) a)
theorem chk1_ok {p d e : Nat} : ∀ (T : List Nat) (c : Nat), chk1 p d e T c = true → ∀ x, c ≤ x → x < p → ∃ w, okW p (x * d % p) (x * e % p) w = true
  | [], c, h, x, h1, h2 => by
    have := Nat.eq_of_beq_eq_true h
    omega
  | w :: ws, c, h, x, h1, h2 => by
    simp only [chk1, Bool.and_eq_true] at h
    by_cases g : x = c
    · subst g; exact ⟨w, h.1⟩
    · exact chk1_ok ws (c + 1) h.2 x (by omega) h2
theorem chk2_ok {p d e : Nat} : ∀ (T : List (Nat × Nat)), chk2 p d e T = true → ∀ w ∈ T, okW p (w.1 * d) (w.1 * e) w.2 = true
  | [], _, w, hw => by simp at hw
  | v :: ws, h, w, hw => by
    simp only [chk2, Bool.and_eq_true] at h
    rcases List.mem_cons.1 hw with g | g
    · subst g; exact h.1
    · exact chk2_ok ws h.2 w g
theorem nat_ne {p u : Nat} (hu : u < p) (h0 : u ≠ 0) : ¬ eqp (p : Int) (u : Int) 0 := by
  intro g
  have := eqp_iff.1 g
  rw [Int.emod_eq_of_lt (by omega) (by omega), Int.zero_emod] at this
  omega
theorem eqp_nat {p a b : Nat} (h : a % p = b % p) : eqp (p : Int) (a : Int) (b : Int) := by
  refine eqp_iff.2 ?_
  rw [← Int.natCast_emod, ← Int.natCast_emod, h]
theorem id_ca (a b v w : Int) : (a*a*a*v*v) * (b*w) * (b*w) - a = (a * (v*b + 1) * (a*w) * (a*w)) * (v*b - 1) + (a * (w*a + 1)) * (w*a - 1) := by grind
theorem id_cb (a b v w : Int) : (a*a*a*v*v) * (b*w) * (b*w) * (b*w) - b = (b * (v*b + 1) * (a*w) * (a*w) * (a*w)) * (v*b - 1) + (b * ((w*a)*(w*a) + w*a + 1)) * (w*a - 1) := by grind
theorem tab_good {p g : Nat} {T1 T2 : List Nat} {TB TA : List (Nat × Nat)} (hT : tabOk p g T1 T2 TB TA = true) (h : fieldB (p : Int) = true) {a b : Nat} (ha : a < p) (hb : b < p) : GoodC (p : Int) (a : Int) (b : Int) := by
  have hp := fieldB_facts h
  simp only [tabOk, Bool.and_eq_true] at hT
  obtain ⟨⟨⟨⟨⟨⟨c1, c2⟩, c3⟩, c4⟩, k1⟩, k2⟩, k3⟩ := hT
  by_cases a0 : a = 0
  · by_cases b0 : b = 0
    · intro h' hd
      subst a0; subst b0
      exact absurd (by rw [disc_nat]; simp) hd
    · have q := List.all_eq_true.1 k2 b (List.mem_range.2 hb)
      rw [beq_f b0, Bool.false_or] at q
      obtain ⟨w, hw, q⟩ := List.any_eq_true.1 q
      obtain ⟨u, hu, q⟩ := List.any_eq_true.1 q
      have hup := List.mem_range.1 hu
      simp only [Bool.and_eq_true, Bool.not_eq_true'] at q
      have u0 : u ≠ 0 := fun e => by subst e; simp at q
      have q2 := Nat.eq_of_beq_eq_true q.2
      have hg := okW_good (chk2_ok TB c3 w hw)
      subst a0
      refine GoodC.iso (u := (u : Int)) (nat_ne hup u0) ?_ ?_ hg
      · refine eqp_iff.2 ?_; simp
      · have := eqp_nat (p := p) (a := b) (b := w.1 * (u * u * u * u * u * u)) (by rw [q2, Nat.mod_eq_of_lt hb])
        simp only [Int.natCast_mul] at this
        rw [Nat.mul_one]
        exact this
  · by_cases b0 : b = 0
    · have q := List.all_eq_true.1 k3 a (List.mem_range.2 ha)
      rw [beq_f a0, Bool.false_or] at q
      obtain ⟨w, hw, q⟩ := List.any_eq_true.1 q
      obtain ⟨u, hu, q⟩ := List.any_eq_true.1 q
      have hup := List.mem_range.1 hu
      simp only [Bool.and_eq_true, Bool.not_eq_true'] at q
      have u0 : u ≠ 0 := fun e => by subst e; simp at q
      have q2 := Nat.eq_of_beq_eq_true q.2
      have hg := okW_good (chk2_ok TA c4 w hw)
      subst b0
      refine GoodC.iso (u := (u : Int)) (nat_ne hup u0) ?_ ?_ hg
      · have := eqp_nat (p := p) (a := a) (b := w.1 * (u * u * u * u)) (by rw [q2, Nat.mod_eq_of_lt ha])
        simp only [Int.natCast_mul] at this
        rw [Nat.mul_one]
        exact this
      · refine eqp_iff.2 ?_; simp
    · -- both are units: a = c d², b = c d³
      have iA := inv_mul h (ne_emod (nat_ne ha a0))
      have iB := inv_mul h (ne_emod (nat_ne hb b0))
      generalize invL (p : Int) (a : Int) = w at *
      generalize invL (p : Int) (b : Int) = v at *
      have hp0 : (0 : Int) < (p : Int) := by omega
      obtain ⟨d, hd⟩ : ∃ d : Nat, (d : Int) = ((b : Int) * w) % (p : Int) := ⟨((b : Int) * w % (p : Int)).toNat, Int.toNat_of_nonneg (emod_b _ _ hp0).1⟩
      obtain ⟨c, hc⟩ : ∃ c : Nat, (c : Int) = ((a : Int) * a * a * v * v) % (p : Int) := ⟨((a : Int) * a * a * v * v % (p : Int)).toNat, Int.toNat_of_nonneg (emod_b _ _ hp0).1⟩
      have hdp : d < p := by have := emod_b ((b : Int) * w) _ hp0; omega
      have hcp : c < p := by have := emod_b ((a : Int) * a * a * v * v) _ hp0; omega
      have ed : eqp (p : Int) (d : Int) ((b : Int) * w) := by rw [hd]; exact eqp_mod _ _
      have ec : eqp (p : Int) (c : Int) ((a : Int) * a * a * v * v) := by rw [hc]; exact eqp_mod _ _
      have ea : eqp (p : Int) ((c : Int) * d * d) (a : Int) := by
        have e1 : (c : Int) * d * d - a = (d * d) * (c - a*a*a*v*v) + (a*a*a*v*v * (d + b*w)) * (d - b*w) + 1 * ((a*a*a*v*v) * (b*w) * (b*w) - a) := by grind
        have e2 : (p : Int) ∣ ((a : Int)*a*a*v*v) * (b*w) * (b*w) - a := by rw [id_ca]; exact dvd2 _ _ iB iA
        unfold eqp at *; rw [e1]
        exact dvd3 _ _ _ ec ed e2
      have eb : eqp (p : Int) ((c : Int) * d * d * d) (b : Int) := by
        have e1 : (c : Int) * d * d * d - b = (d * d * d) * (c - a*a*a*v*v) + (a*a*a*v*v * (d * d + d * (b*w) + (b*w)*(b*w))) * (d - b*w) + 1 * ((a*a*a*v*v) * (b*w) * (b*w) * (b*w) - b) := by grind
        have e2 : (p : Int) ∣ ((a : Int)*a*a*v*v) * (b*w) * (b*w) * (b*w) - b := by rw [id_cb]; exact dvd2 _ _ iB iA
        unfold eqp at *; rw [e1]
        exact dvd3 _ _ _ ec ed e2
      have d0 : d ≠ 0 := by
        intro e
        subst e
        refine nat_ne hb b0 (eqp_trans (eqp_symm eb) (eqp_iff.2 (by simp)))
      have c0 : c ≠ 0 := by
        intro e
        subst e
        refine nat_ne hb b0 (eqp_trans (eqp_symm eb) (eqp_iff.2 (by simp)))
      have q := List.all_eq_true.1 k1 d (List.mem_range.2 hdp)
      rw [beq_f d0, Bool.false_or] at q
      obtain ⟨u, hu, q⟩ := List.any_eq_true.1 q
      have hup := List.mem_range.1 hu
      simp only [Bool.and_eq_true, Bool.not_eq_true', Bool.or_eq_true] at q
      have u0 : u ≠ 0 := fun e => by subst e; simp at q
      rcases q.2 with q2 | q2
      · have q2 := Nat.eq_of_beq_eq_true q2
        have eu : eqp (p : Int) (d : Int) ((u : Int) * u) := by
          have := eqp_nat (p := p) (a := d) (b := u * u) (by rw [q2, Nat.mod_eq_of_lt hdp])
          rwa [Int.natCast_mul] at this
        obtain ⟨x, hx⟩ := chk1_ok T1 1 c1 c (by omega) hcp
        rw [Nat.mul_one, Nat.mod_eq_of_lt hcp] at hx
        refine GoodC.iso (u := (u : Int)) (nat_ne hup u0) ?_ ?_ (okW_good hx)
        · refine eqp_trans (eqp_symm ea) ?_
          have e1 : (c : Int) * d * d - c * (u * u * u * u) = (c * (d + u * u)) * (d - u * u) := by grind
          unfold eqp at *; rw [e1]
          exact dvd1 _ eu
        · refine eqp_trans (eqp_symm eb) ?_
          have e1 : (c : Int) * d * d * d - c * (u * u * u * u * u * u) = (c * (d * d + d * (u * u) + u * u * (u * u))) * (d - u * u) := by grind
          unfold eqp at *; rw [e1]
          exact dvd1 _ eu
      · have q2 := Nat.eq_of_beq_eq_true q2
        have eu : eqp (p : Int) (d : Int) ((g : Int) * u * u) := by
          have := eqp_nat (p := p) (a := d) (b := g * u * u) (by rw [q2, Nat.mod_eq_of_lt hdp])
          rwa [Int.natCast_mul, Int.natCast_mul] at this
        obtain ⟨x, hx⟩ := chk1_ok T2 1 c2 c (by omega) hcp
        have mA : eqp (p : Int) ((c * (g * g % p) % p : Nat) : Int) ((c : Int) * (g * g)) := by
          have := eqp_nat (p := p) (a := c * (g * g % p) % p) (b := c * (g * g)) (by rw [Nat.mod_mod, Nat.mul_mod_mod])
          rwa [Int.natCast_mul c, Int.natCast_mul g] at this
        have mB : eqp (p : Int) ((c * (g * g * g % p) % p : Nat) : Int) ((c : Int) * (g * g * g)) := by
          have := eqp_nat (p := p) (a := c * (g * g * g % p) % p) (b := c * (g * g * g)) (by rw [Nat.mod_mod, Nat.mul_mod_mod])
          rwa [Int.natCast_mul c, Int.natCast_mul (g * g), Int.natCast_mul g] at this
        refine GoodC.iso (u := (u : Int)) (nat_ne hup u0) ?_ ?_ (okW_good hx)
        · refine eqp_trans (eqp_symm ea) ?_
          generalize ((c * (g * g % p) % p : Nat) : Int) = A at *
          have e1 : (c : Int) * d * d - A * (u * u * u * u) = (c * (d + g * u * u)) * (d - g * u * u) + -(u * u * u * u : Int) * (A - c * (g * g)) := by grind
          unfold eqp at *; rw [e1]
          exact dvd2 _ _ eu mA
        · refine eqp_trans (eqp_symm eb) ?_
          generalize ((c * (g * g * g % p) % p : Nat) : Int) = B at *
          have e1 : (c : Int) * d * d * d - B * (u * u * u * u * u * u) = (c * (d * d + d * (g * u * u) + g * u * u * (g * u * u))) * (d - g * u * u) + -(u * u * u * u * u * u : Int) * (B - c * (g * g * g)) := by grind
          unfold eqp at *; rw [e1]
          exact dvd2 _ _ eu mB
end Go.Proofs.Ytoooefcjkmfhoaa

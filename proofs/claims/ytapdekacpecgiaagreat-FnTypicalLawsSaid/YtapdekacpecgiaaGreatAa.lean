import Derived.Test.YtapdekacpecgiaaGreatPa
namespace Go.Proofs.YtapdekacpecgiaaGreat
open Go.RowKit
set_option linter.unusedSimpArgs false
set_option linter.unusedVariables false
set_option linter.unusedSectionVars false
set_option maxRecDepth 20000
set_option maxHeartbeats 1000000
structure Rg (R:Type) where
 a:R→R→R
 m:R→R→R
 c:Int→R
 aC:∀ x y,a x y=a y x
 aA:∀ x y z,a (a x y) z=a x (a y z)
 aZ:∀ x,a x (c 0)=x
 mC:∀ x y,m x y=m y x
 mA:∀ x y z,m (m x y) z=m x (m y z)
 mI:∀ x,m x (c 1)=x
 mZ:∀ x,m x (c 0)=c 0
 mD:∀ x y z,m x (a y z)=a (m x y) (m x z)
 cA:∀ i j,c (i+j)=a (c i) (c j)
 cM:∀ i j,c (i*j)=m (c i) (c j)
instance aCo {R:Type} (K:Rg R):Std.Commutative K.a:=⟨K.aC⟩
instance aAs {R:Type} (K:Rg R):Std.Associative K.a:=⟨K.aA⟩
instance mCo {R:Type} (K:Rg R):Std.Commutative K.m:=⟨K.mC⟩
instance mAs {R:Type} (K:Rg R):Std.Associative K.m:=⟨K.mA⟩
namespace Rg
theorem aZl {R:Type} (K:Rg R) (x:R):K.a (K.c 0) x=x:=by rw [K.aC,K.aZ]
theorem mIl {R:Type} (K:Rg R) (x:R):K.m (K.c 1) x=x:=by rw [K.mC,K.mI]
theorem mZl {R:Type} (K:Rg R) (x:R):K.m (K.c 0) x=K.c 0:=by rw [K.mC,K.mZ]
theorem mDr {R:Type} (K:Rg R) (x y z:R):K.m (K.a x y) z=K.a (K.m x z) (K.m y z):=by rw [K.mC,K.mD,K.mC z,K.mC z]
theorem a4 {R:Type} (K:Rg R) (x y z w:R):K.a (K.a x y) (K.a z w)=K.a (K.a x z) (K.a y w):=by ac_rfl
def s {R:Type} (K:Rg R):Nat→(Nat→R)→R
 | 0,_=>K.c 0
 | n+1,f=>K.a (s K n f) (f n)
theorem s_congr {R:Type} (K:Rg R) {n:Nat} {f g:Nat→R} (h:∀ i,i<n→f i=g i):K.s n f=K.s n g:=by
 induction n with
 | zero=>rfl
 | succ n ih=>rw [s,s,ih fun i hi=>h i (by omega),h n (by omega)]
theorem s_zero {R:Type} (K:Rg R) {n:Nat} {f:Nat→R} (h:∀ i,i<n→f i=K.c 0):K.s n f=K.c 0:=by
 induction n with
 | zero=>rfl
 | succ n ih=>rw [s,ih fun i hi=>h i (by omega),h n (by omega),K.aZ]
theorem s_add {R:Type} (K:Rg R) (n:Nat) (f g:Nat→R):K.s n (fun i=>K.a (f i) (g i))=K.a (K.s n f) (K.s n g):=by
 induction n with
 | zero=>rw [s,s,s,K.aZ]
 | succ n ih=>rw [s,s,s,ih,K.a4]
theorem s_mul {R:Type} (K:Rg R) (n:Nat) (x:R) (f:Nat→R):K.m x (K.s n f)=K.s n (fun i=>K.m x (f i)):=by
 induction n with
 | zero=>rw [s,s,K.mZ]
 | succ n ih=>rw [s,s,K.mD,ih]
theorem s_mulr {R:Type} (K:Rg R) (n:Nat) (x:R) (f:Nat→R):K.m (K.s n f) x=K.s n (fun i=>K.m (f i) x):=by
 rw [K.mC,s_mul];exact K.s_congr fun i _=>K.mC _ _
theorem s_swap {R:Type} (K:Rg R) (n k:Nat) (f:Nat→Nat→R):K.s n (fun i=>K.s k (f i))=K.s k (fun j=>K.s n (fun i=>f i j)):=by
 induction n with
 | zero=>rw [s];exact (K.s_zero fun i _=>rfl).symm
 | succ n ih=>
  rw [s,ih,← K.s_add]
  rfl
theorem s_left {R:Type} (K:Rg R) (n:Nat) (f:Nat→R):K.s (n+1) f=K.a (f 0) (K.s n (fun i=>f (i+1))):=by
 induction n with
 | zero=>rw [s,s,s,K.aZl,K.aZ]
 | succ n ih=>rw [s,ih,K.aA];rfl
theorem s_tail {R:Type} (K:Rg R) {n k:Nat} {f:Nat→R} (hk:k≤n) (h:∀ i,k≤i→i<n→f i=K.c 0):K.s n f=K.s k f:=by
 induction n with
 | zero=>rw [show k=0 by omega]
 | succ n ih=>
  by_cases e:k=n+1
  ·rw [e]
  ·rw [s,h n (by omega) (by omega),K.aZ,ih (by omega) fun i h1 h2=>h i h1 (by omega)]
theorem s_one {R:Type} (K:Rg R) {n k:Nat} {f:Nat→R} (hk:k<n) (h:∀ i,i<n→i≠k→f i=K.c 0):K.s n f=f k:=by
 rw [K.s_tail (show k+1≤n by omega) fun i h1 h2=>h i h2 (by omega),s,K.s_zero fun i hi=>h i (by omega) (by omega),K.aZl]
theorem s_tri {R:Type} (K:Rg R) (n:Nat) (F:Nat→Nat→R):K.s (n+1) (fun i=>K.s (i+1) (fun j=>F i j))=K.s (n+1) (fun j=>K.s (n-j+1) (fun k=>F (j+k) j)):=by
 induction n with
 | zero=>rfl
 | succ n ih=>
  rw [s,ih,show K.s (n+1+1) (fun j=>K.s (n+1-j+1) (fun k=>F (j+k) j))=K.a (K.s (n+1) (fun j=>K.s (n+1-j+1) (fun k=>F (j+k) j))) (K.s (n+1-(n+1)+1) (fun k=>F (n+1+k) (n+1))) from rfl]
  have e1:K.s (n+1) (fun j=>K.s (n+1-j+1) (fun k=>F (j+k) j))=K.a (K.s (n+1) (fun j=>K.s (n-j+1) (fun k=>F (j+k) j))) (K.s (n+1) (fun j=>F (n+1) j)):=by
   rw [← K.s_add]
   refine K.s_congr fun j hj=>?_
   rw [show n+1-j+1=(n-j+1)+1 by omega,s,show j+(n-j+1)=n+1 by omega]
  rw [e1,show n+1-(n+1)+1=1 by omega,show K.s 1 (fun k=>F (n+1+k) (n+1))=F (n+1) (n+1) by rw [s,s,K.aZl],K.aA]
  rfl
theorem s_rev {R:Type} (K:Rg R) (n:Nat) (f:Nat→R):K.s n f=K.s n (fun i=>f (n-1-i)):=by
 induction n with
 | zero=>rfl
 | succ n ih=>
  rw [K.s_left n (fun i=>f (n+1-1-i)),s,ih,K.aC]
  congr 1
  refine K.s_congr fun i hi=>?_
  rw [show n+1-1-(i+1)=n-1-i by omega]
theorem c_sm {R:Type} (K:Rg R) (n:Nat) (f:Nat→Int):K.c (sm n f)=K.s n (fun i=>K.c (f i)):=by
 induction n with
 | zero=>rfl
 | succ n ih=>rw [s,← ih,← K.cA];rfl
def p {R:Type} (K:Rg R) (x:R):Nat→R
 | 0=>K.c 1
 | n+1=>K.m (p K x n) x
theorem p_add {R:Type} (K:Rg R) (x:R) (i j:Nat):K.p x (i+j)=K.m (K.p x i) (K.p x j):=by
 induction j with
 | zero=>rw [p,K.mI];rfl
 | succ j ih=>rw [← Nat.add_assoc,p,ih,p,K.mA]
def cr {R:Type} (K:Rg R) (u w:Nat→R) (n:Nat):R:=K.s (n+1) (fun i=>K.m (u i) (w (n-i)))
def ev {R:Type} (K:Rg R) (d:Nat) (u:Nat→R) (x:R):R:=K.s (d+1) (fun i=>K.m (u i) (K.p x i))
theorem ev_mul {R:Type} (K:Rg R) {d:Nat} {x:R} (h:∀ i,d<i→K.p x i=K.c 0) (u w:Nat→R):K.m (K.ev d u x) (K.ev d w x)=K.ev d (K.cr u w) x:=by
 have e1:K.ev d (K.cr u w) x=K.s (d+1) (fun n=>K.s (n+1) (fun i=>K.m (K.m (u i) (w (n-i))) (K.p x n))):=K.s_congr fun n _=>K.s_mulr _ _ _
 rw [e1,K.s_tri,ev,K.s_mulr]
 refine K.s_congr fun i hi=>?_
 rw [ev,K.s_mul]
 have e2:∀ k,K.m (K.m (u i) (K.p x i)) (K.m (w k) (K.p x k))=K.m (K.m (u i) (w k)) (K.p x (i+k)):=fun k=>by rw [K.p_add];ac_rfl
 rw [K.s_congr fun k _=>e2 k,K.s_tail (show d-i+1≤d+1 by omega) fun k h1 h2=>by rw [h (i+k) (by omega),K.mZ]]
 exact K.s_congr fun k _=>by rw [show i+k-i=k by omega]
theorem ev_add {R:Type} (K:Rg R) (d:Nat) (u w:Nat→R) (x:R):K.ev d (fun i=>K.a (u i) (w i)) x=K.a (K.ev d u x) (K.ev d w x):=by
 rw [ev,ev,ev,← K.s_add];exact K.s_congr fun i _=>K.mDr _ _ _
theorem ev_s {R:Type} (K:Rg R) (d n:Nat) (u:Nat→Nat→R) (x:R):K.ev d (fun i=>K.s n (fun k=>u k i)) x=K.s n (fun k=>K.ev d (u k) x):=by
 rw [show K.s n (fun k=>K.ev d (u k) x)=K.s n (fun k=>K.s (d+1) (fun i=>K.m (u k i) (K.p x i))) from rfl,K.s_swap]
 exact K.s_congr fun i _=>K.s_mulr _ _ _
theorem ev_smul {R:Type} (K:Rg R) (d:Nat) (y:R) (u:Nat→R) (x:R):K.ev d (fun i=>K.m y (u i)) x=K.m y (K.ev d u x):=by
 rw [ev,ev,K.s_mul];exact K.s_congr fun i _=>K.mA _ _ _
theorem ev_congr {R:Type} (K:Rg R) {d:Nat} {u w:Nat→R} {x:R} (h:∀ i,i≤d→u i=w i):K.ev d u x=K.ev d w x:=K.s_congr fun i hi=>by rw [h i (by omega)]
def ps {R:Type} (K:Rg R):Rg (Nat→R) where
 a f g n:=K.a (f n) (g n)
 m f g:=K.cr f g
 c i n:=if n=0 then K.c i else K.c 0
 aC f g:=funext fun n=>K.aC _ _
 aA f g h:=funext fun n=>K.aA _ _ _
 aZ f:=funext fun n=>by simp only;split <;> exact K.aZ _
 mC f g:=funext fun n=>by
  rw [cr,K.s_rev]
  refine K.s_congr fun i hi=>?_
  rw [show n+1-1-i=n-i by omega,show n-(n-i)=i by omega,K.mC]
 mA f g h:=funext fun n=>by
  unfold cr
  rw [show K.s (n+1) (fun i=>K.m (K.s (i+1) (fun j=>K.m (f j) (g (i-j)))) (h (n-i)))=K.s (n+1) (fun i=>K.s (i+1) (fun j=>K.m (K.m (f j) (g (i-j))) (h (n-i)))) from K.s_congr fun i _=>K.s_mulr _ _ _,K.s_tri n (fun i j=>K.m (K.m (f j) (g (i-j))) (h (n-i)))]
  refine K.s_congr fun j hj=>?_
  rw [K.s_mul]
  refine K.s_congr fun k hk=>?_
  rw [show j+k-j=k by omega,show n-(j+k)=n-j-k by omega,K.mA]
 mI f:=funext fun n=>by
  rw [cr,K.s_one (show n<n+1 by omega) fun i h1 h2=>by rw [if_neg (by omega),K.mZ]]
  rw [if_pos (by omega),K.mI]
 mZ f:=funext fun n=>by
  rw [cr,K.s_zero fun i _=>by split <;> exact K.mZ _]
  simp
 mD f g h:=funext fun n=>by
  simp only [cr]
  rw [← K.s_add]
  exact K.s_congr fun i _=>K.mD _ _ _
 cA i j:=funext fun n=>by
  simp only
  split
  ·exact K.cA i j
  ·rw [K.aZ]
 cM i j:=funext fun n=>by
  rw [cr,K.s_left,K.s_zero fun k _=>by rw [if_neg (show k+1≠0 by omega),K.mZl],K.aZ]
  simp only [Nat.sub_zero,if_pos]
  split
  ·exact K.cM i j
  ·rw [K.mZ]
end Rg
def rgZ:Rg Int where
 a:=(· + ·)
 m:=(· * ·)
 c:=id
 aC:=Int.add_comm
 aA:=Int.add_assoc
 aZ:=Int.add_zero
 mC:=Int.mul_comm
 mA:=Int.mul_assoc
 mI:=Int.mul_one
 mZ:=Int.mul_zero
 mD:=Int.mul_add
 cA _ _:=rfl
 cM _ _:=rfl
structure Fil {R:Type} (K:Rg R) (N:Nat) where
 O:Nat→R→Prop
 zero:∀ k,O k (K.c 0)
 add:∀ {k x y},O k x→O k y→O k (K.a x y)
 mul:∀ {k l x y},O k x→O l y→O (k+l) (K.m x y)
 cst:∀ x,O 0 x
 low:∀ {k l x},l≤k→O k x→O l x
 top:∀ {k x},N<k→O k x→x=K.c 0
namespace Fil
theorem sum {R:Type} {K:Rg R} {N:Nat} (S:Fil K N) {k n:Nat} {f:Nat→R} (h:∀ i,i<n→S.O k (f i)):S.O k (K.s n f):=by
 induction n with
 | zero=>exact S.zero k
 | succ n ih=>exact S.add (ih fun i hi=>h i (by omega)) (h n (by omega))
theorem pw {R:Type} {K:Rg R} {N:Nat} (S:Fil K N) {k:Nat} {x:R} (h:S.O k x):∀ i,S.O (i*k) (K.p x i)
 | 0=>by rw [Nat.zero_mul];exact S.cst _
 | i+1=>by rw [Nat.succ_mul];exact S.mul (pw S h i) h
theorem pw1 {R:Type} {K:Rg R} {N:Nat} (S:Fil K N) {x:R} (h:S.O 1 x) (i:Nat):S.O i (K.p x i):=by
 have:=S.pw h i;rwa [Nat.mul_one] at this
theorem nil {R:Type} {K:Rg R} {N:Nat} (S:Fil K N) {x:R} (h:S.O 1 x) {i:Nat} (hi:N<i):K.p x i=K.c 0:=S.top hi (S.pw1 h i)
end Fil
def Rg.e2 {R:Type} (K:Rg R) (d:Nat) (P:Nat→Nat→Int) (x y:R):R:=K.ev d (fun i=>K.ev d (fun j=>K.c (P i j)) y) x
theorem Rg.e2_sum {R:Type} (K:Rg R) (d:Nat) (P:Nat→Nat→Int) (x y:R):K.e2 d P x y=K.s (d+1) (fun i=>K.s (d+1) (fun j=>K.m (K.c (P i j)) (K.m (K.p x i) (K.p y j)))):=by
 refine K.s_congr fun i _=>?_
 simp only [Rg.ev]
 rw [K.s_mulr]
 exact K.s_congr fun j _=>by ac_rfl
theorem Fil.e2_congr {R:Type} {K:Rg R} {N:Nat} (S:Fil K N) {d:Nat} {P Q:Nat→Nat→Int} {x y:R} (hx:S.O 1 x) (hy:S.O 1 y) (h:∀ i j,i+j≤N→K.c (P i j)=K.c (Q i j)):K.e2 d P x y=K.e2 d Q x y:=by
 rw [K.e2_sum,K.e2_sum]
 refine K.s_congr fun i _=>K.s_congr fun j _=>?_
 by_cases hij:i+j≤N
 ·rw [h i j hij]
 ·rw [S.top (show N<i+j by omega) (S.mul (S.pw1 hx i) (S.pw1 hy j)),K.mZ,K.mZ]
theorem Rg.e2_add {R:Type} (K:Rg R) (d n:Nat) (t:Nat→Int) (P:Nat→Nat→Nat→Int) (x y:R):K.e2 d (fun u v=>sm n (fun i=>t i*P i u v)) x y=K.s n (fun i=>K.m (K.c (t i)) (K.e2 d (P i) x y)):=by
 rw [show (fun i=>K.m (K.c (t i)) (K.e2 d (P i) x y))=(fun i=>K.ev d (fun u=>K.ev d (fun v=>K.c (t i*P i u v)) y) x) from funext fun i=>by
  rw [Rg.e2,← K.ev_smul]
  refine K.ev_congr fun u _=>?_
  rw [← K.ev_smul]
  exact K.ev_congr fun v _=>(K.cM _ _).symm]
 rw [← K.ev_s]
 refine K.ev_congr fun u _=>?_
 rw [← K.ev_s]
 exact K.ev_congr fun v _=>K.c_sm _ _
theorem Fil.e2_mul {R:Type} {K:Rg R} {N:Nat} (S:Fil K N) {d:Nat} (hd:N≤d) {P Q:Nat→Nat→Int} {x y:R} (hx:S.O 1 x) (hy:S.O 1 y):K.m (K.e2 d P x y) (K.e2 d Q x y)=K.e2 d (fun u v=>sm (u+1) (fun i=>sm (v+1) (fun j=>P i j*Q (u-i) (v-j)))) x y:=by
 rw [Rg.e2,Rg.e2,K.ev_mul fun i hi=>S.nil hx (by omega)]
 refine K.ev_congr fun u _=>?_
 rw [Rg.cr,K.s_congr fun i _=>K.ev_mul (fun i hi=>S.nil hy (by omega)) _ _,← K.ev_s]
 refine K.ev_congr fun v _=>?_
 rw [K.c_sm]
 refine K.s_congr fun i _=>?_
 rw [K.c_sm]
 exact K.s_congr fun j _=>(K.cM _ _).symm
end Go.Proofs.YtapdekacpecgiaaGreat

import Derived.Test.YtapdekacpecgiaaGreatTac
namespace Go.Proofs.YtapdekacpecgiaaGreat
open Go.RowKit
set_option linter.unusedSimpArgs false
set_option linter.unusedVariables false
set_option linter.unusedSectionVars false
set_option maxRecDepth 20000
set_option maxHeartbeats 1000000
def tab (n:Nat) (f:Nat→Int):List Int:=(List.range n).map f
theorem Ae (n:Nat) (f:Nat→Int):(tab n f).length=n:=by simp [tab]
theorem Es {n i:Nat} {f:Nat→Int} (h:i<n):(tab n f).getD i 0=f i:=by simp [tab,List.getD_eq_getElem?_getD,h]
theorem Ts {n i:Nat} {f:Nat→Int} (h:n≤i):(tab n f).getD i 0=0:=by
 simp [tab,List.getD_eq_getElem?_getD,Nat.not_lt.2 h]
theorem Bn {n:Nat} {f g:Nat→Int} (h:∀ i,i<n→f i=g i):tab n f=tab n g:=by
 apply List.ext_getElem
 ·simp [tab]
 ·intro i h1 h2;simp [tab] at h1 ⊢;exact h i h1
theorem Y5 {n i:Nat} {f:Nat→Int} {v:Int}:(tab n f).set i v=tab n (fun j=>if j=i then v else f j):=by
 apply List.ext_getElem
 ·simp [tab]
 ·intro j h1 h2
  simp only [tab,List.getElem_set,List.getElem_map,List.getElem_range]
  by_cases e:i=j
  ·simp [e]
  ·rw [if_neg e,if_neg (fun h=>e h.symm)]
theorem H0 {n i:Nat} {f g:Nat→Int} {v:Int} (h:∀ j,j<n→(if j=i then v else f j)=g j):(tab n f).set i v=tab n g:=by
 rw [Y5];exact Bn h
theorem Fk (n:Nat):List.replicate n 0=tab n (fun _=>0):=by
 apply List.ext_getElem <;> simp [tab]
theorem Ri (f:Nat→Int):tab 0 f=[]:=rfl
theorem Gn (n:Nat) (f:Nat→Int):tab n f++[f n]=tab (n+1) f:=by simp [tab,List.range_succ]
theorem Ki (l:List Int):tab l.length (fun i=>l.getD i 0)=l:=by
 apply List.ext_getElem
 ·simp [tab]
 ·intro i h1 h2;simp [tab,List.getD_eq_getElem?_getD,h2]
theorem Alh {l:List Int} {n:Nat} {f:Nat→Int} (hl:l.length=n) (h:∀ i,i<n→l.getD i 0=f i):l=tab n f:=by
 rw [← Ki l,hl];exact Bn h
theorem D8 {n:Nat} {f:Nat→Int} {x:Int}:x∈tab n f↔∃ i,i<n∧f i=x:=by simp [tab]
def sm:Nat→(Nat→Int)→Int
 | 0,_=>0
 | n+1,f=>sm n f+f n
theorem As {n:Nat} {f g:Nat→Int} (h:∀ i,i<n→f i=g i):sm n f=sm n g:=by
 induction n with
 | zero=>rfl
 | succ n ih=>simp only [sm];rw [ih (fun i hi=>h i (by omega)),h n (by omega)]
theorem Az {n:Nat} {f:Nat→Int} (h:∀ i,i<n→f i=0):sm n f=0:=by
 induction n with
 | zero=>rfl
 | succ n ih=>simp only [sm];rw [ih (fun i hi=>h i (by omega)),h n (by omega)];rfl
theorem Jm (n:Nat) (f g:Nat→Int):sm n (fun i=>f i+g i)=sm n f+sm n g:=by
 induction n with
 | zero=>rfl
 | succ n ih=>simp only [sm,ih];omega
theorem Ch (n:Nat) (c:Int) (f:Nat→Int):sm n (fun i=>c*f i)=c*sm n f:=by
 induction n with
 | zero=>simp [sm]
 | succ n ih=>simp only [sm,ih,Int.mul_add]
theorem H6 (n:Nat) (c:Int) (f:Nat→Int):sm n (fun i=>f i*c)=sm n f*c:=by
 induction n with
 | zero=>simp [sm]
 | succ n ih=>simp only [sm,ih,Int.add_mul]
theorem Be {n:Nat} {f g:Nat→Int} {m:Int} (h:∀ i,i<n→f i%m=g i%m):sm n f%m=sm n g%m:=by
 induction n with
 | zero=>rfl
 | succ n ih=>simp only [sm];rw [Int.add_emod,ih (fun i hi=>h i (by omega)),h n (by omega),← Int.add_emod]
theorem Bq (n:Nat) (f:Nat→Int):sm (n+1) f=f 0+sm n (fun i=>f (i+1)):=by
 induction n with
 | zero=>simp [sm]
 | succ n ih=>rw [sm,ih,sm];omega
theorem Ami (n:Nat) (f:Nat→Int):sm n f=sm n (fun i=>f (n-1-i)):=by
 induction n with
 | zero=>rfl
 | succ n ih=>
  rw [Bq n (fun i=>f (n+1-1-i)),sm,ih]
  have:sm n (fun i=>f (n-1-i))=sm n (fun i=>f (n+1-1-(i+1))):=As (fun i hi=>by congr 1;omega)
  rw [this];simp;omega
theorem Ra (n k:Nat) (f:Nat→Nat→Int):sm n (fun i=>sm k (f i))=sm k (fun j=>sm n (fun i=>f i j)):=by
 induction n with
 | zero=>exact (Az (fun _ _=>rfl)).symm
 | succ n ih=>simp only [sm,ih,Jm]
theorem tm (x m:Int) (h:0≤x):x.tmod m=x%m:=Int.tmod_eq_emod_of_nonneg h
theorem Int.neg_lt_tmod_of_pos' (n:Int) {m:Int} (h:0<m) : -m<n.tmod m∧n.tmod m<m:=by
 have h1:=Int.emod_nonneg n (show m≠0 by omega)
 have h2:=Int.emod_lt_of_pos n h
 rw [Int.tmod_eq_emod]
 split
 ·omega
 ·rename_i hx
  have:n%m≠0:=fun e=>hx (.inr (Int.dvd_of_emod_eq_zero e))
  omega
theorem Af3 (n m:Int) (h:0<m):(n.tmod m+m).tmod m=n%m:=by
 have h1:=Int.emod_nonneg n (show m≠0 by omega)
 have h2:=Int.emod_lt_of_pos n h
 have h3:n.tmod m=n%m∨n.tmod m=n%m-m:=by
  rw [Int.tmod_eq_emod]
  split
  ·left;omega
  ·right;omega
 rw [Int.tmod_eq_emod_of_nonneg (by omega)]
 rcases h3 with e|e <;> rw [e]
 ·rw [Int.add_emod_right,Int.emod_emod]
 ·rw [Int.sub_add_cancel,Int.emod_emod]
theorem Ad1 {x y m:Int} (hx:0≤x) (hx2:x<m) (hy:0≤y) (hy2:y<m) (hm:m≤3000000000):0≤x*y∧x*y<9000000000000000001:=by
 have h1:=Int.mul_nonneg hx hy
 have h2:x*y≤3000000000*3000000000:=Int.mul_le_mul (by omega) (by omega) hy (by omega)
 omega
theorem F1 {x y m:Int} (hx:0≤x) (hx2:x<m) (hy:0≤y) (hy2:y<m) (hm:m≤10000):0≤x*y∧x*y≤100000000:=by
 have h1:=Int.mul_nonneg hx hy
 have h2:x*y≤10000*10000:=Int.mul_le_mul (by omega) (by omega) hy (by omega)
 omega
theorem Ee {x y m:Int} (hx:0≤x) (hx2:x<m) (hy:0≤y) (hy2:y<m) (hm:m≤1000000):0≤x*y∧x*y≤1000000000000:=by
 have h1:=Int.mul_nonneg hx hy
 have h2:x*y≤1000000*1000000:=Int.mul_le_mul (by omega) (by omega) hy (by omega)
 omega
theorem Ag (x m:Int) (h:0<m):0≤x%m∧x%m<m:=⟨Int.emod_nonneg x (by omega),Int.emod_lt_of_pos x h⟩
theorem Fx (a b m:Int):(a%m)*b%m=a*b%m:=by rw [Int.mul_emod,Int.emod_emod,← Int.mul_emod]
theorem Dl (a b m:Int):a*(b%m)%m=a*b%m:=by rw [Int.mul_emod,Int.emod_emod,← Int.mul_emod]
def cv (a b:Nat→Int) (n:Nat):Int:=sm (n+1) (fun i=>a i*b (n-i))
def at' (l:List Int) (i:Nat):Int:=l.getD i 0
def geo (m z:Int) (n d:Nat):List Int:=tab (d+1) (fun j=>if j%n=0 then z^(j/n)%m else 0)
theorem A4 {l:List Int} {m:Int} (h:∀ x∈l,0≤x∧x<m) (hm:0<m) (i:Nat):0≤at' l i∧at' l i<m:=by
 unfold at'
 rcases Nat.lt_or_ge i l.length with h1|h1
 ·rw [List.getD_eq_getElem?_getD];simp only [h1,List.getElem?_eq_getElem,Option.getD_some];exact h _ (List.getElem_mem h1)
 ·rw [List.getD_eq_getElem?_getD];simp [h1,hm]
theorem Ala {l:List Int} {i:Nat} (h:l.length≤i):at' l i=0:=by
 simp [at',List.getD_eq_getElem?_getD,h]
theorem Bl {n i:Nat} {f:Nat→Int} (h:i<n):at' (tab n f) i=f i:=Es h
def pr (a b:Nat→Int) (m:Int) (i n:Nat):Int:=sm i (fun j=>if j≤n then a j*b (n-j) else 0)%m
def row (a b:Nat→Int) (m:Int) (i k n:Nat):Int:=if i≤n∧n<i+k then pr a b m (i+1) n else pr a b m i n
theorem Aji (a b:Nat→Int) (m:Int) (n:Nat):pr a b m 0 n=0:=by simp [pr,sm]
theorem Aid (a b:Nat→Int) (m:Int) (i n:Nat):row a b m i 0 n=pr a b m i n:=by
 unfold row;rw [if_neg (by omega)]
theorem Ake (a b:Nat→Int) (m:Int) (i k:Nat):(pr a b m i (i+k)+a i*b k)%m=pr a b m (i+1) (i+k):=by
 unfold pr
 rw [Int.emod_add_emod,sm,if_pos (Nat.le_add_right i k),Nat.add_sub_cancel_left]
theorem Alw (a b:Nat→Int) (m:Int) (i k:Nat):row a b m i k (i+k)=pr a b m i (i+k):=by
 unfold row;rw [if_neg (by omega)]
theorem Ajs (a b:Nat→Int) (m:Int) (i k n:Nat):(if n=i+k then pr a b m (i+1) (i+k) else row a b m i k n)=row a b m i (k+1) n:=by
 unfold row
 by_cases e:n=i+k
 ·subst e;rw [if_pos rfl,if_pos (by omega)]
 ·rw [if_neg e]
  by_cases h:i≤n∧n<i+k
  ·rw [if_pos h,if_pos (by omega)]
  ·rw [if_neg h,if_neg (by omega)]
theorem Aiz {a b:Nat→Int} {m:Int} {i n:Nat} (h:i≤n→a i*b (n-i)=0):pr a b m (i+1) n=pr a b m i n:=by
 unfold pr
 rw [sm]
 by_cases g:i≤n
 ·rw [if_pos g,h g,Int.add_zero]
 ·rw [if_neg g,Int.add_zero]
theorem Aj5 {a b:Nat→Int} {m:Int} {i k n:Nat} (h:i+k≤n→a i*b (n-i)=0):row a b m i k n=pr a b m (i+1) n:=by
 unfold row
 by_cases g:i≤n∧n<i+k
 ·rw [if_pos g]
 ·rw [if_neg g,Aiz (fun h1=>h (by omega))]
theorem Al5 {a b:Nat→Int} {m:Int} {i n:Nat} (h:∀ j,i≤j→j≤n→a j=0):pr a b m i n=cv a b n%m:=by
 unfold pr cv
 rcases Nat.lt_or_ge n i with h1|h1
 ·obtain ⟨k,rfl⟩:=Nat.exists_eq_add_of_lt h1
  congr 1
  clear h
  induction k with
  | zero=>exact As (fun j hj=>if_pos (by omega))
  | succ k ih=>
   rw [show n+(k+1)+1=(n+k+1)+1 by omega,sm,if_neg (by omega),Int.add_zero]
   exact ih (by omega)
 ·obtain ⟨k,hk⟩:∃ k,n+1=i+k:=⟨n+1-i,by omega⟩
  rw [hk]
  congr 1
  have:∀ k,i+k≤n+1→sm (i+k) (fun i=>a i*b (n-i))=sm i (fun j=>if j≤n then a j*b (n-j) else 0):=by
   intro k
   induction k with
   | zero=>intro _;exact As (fun j hj=>(if_pos (by omega)).symm)
   | succ k ih=>
    intro hk2
    rw [show i+(k+1)=(i+k)+1 by omega,sm,ih (by omega),h (i+k) (by omega) (by omega),Int.zero_mul,Int.add_zero]
  exact (this k (by omega)).symm
theorem Af7 (a b:Nat→Int) {m:Int} (hm:0<m) (i n:Nat):0≤pr a b m i n∧pr a b m i n<m:=Ag _ m hm
def timesL (m:Int) (a b:List Int) (d:Nat):List Int:=tab (d+1) (fun n=>cv (at' a) (at' b) n%m)
theorem La (m:Int) (a b:List Int) (d:Nat):(timesL m a b d).length=d+1:=Ae _ _
theorem Qb (m:Int) (a b:List Int) (d:Nat) (hm:0<m):∀ x∈timesL m a b d,0≤x∧x<m:=by
 intro x hx
 obtain ⟨i,_,rfl⟩:=D8.1 hx
 exact Ag _ m hm
def eu (r s x y:Int):Int:=if h:0<s then eu s (r%s) y (x-r/s*y) else x
 termination_by s.toNat
 decreasing_by
  have h1:=Int.emod_lt_of_pos r h
  have h2:=Int.emod_nonneg r (show s≠0 by omega)
  omega
theorem Qq {r s x y:Int} (h:0<s):eu r s x y=eu s (r%s) y (x-r/s*y):=by rw [eu,dif_pos h]
theorem Ut {r s x y:Int} (h:¬ 0<s):eu r s x y=x:=by rw [eu,dif_neg h]
def invL (m a:Int):Int:=eu m (a%m) 0 1%m
def EuB (m r s x y:Int):Prop:=0<r∧r≤m∧0≤s∧s≤m∧((x≤0∧0≤y∧y*r-x*s=m)∨(0≤x∧y≤0∧x*s-y*r=m))
theorem Ry {m a:Int} (h:0<m):EuB m m (a%m) 0 1:=by
 have h1:=Ag a m h
 exact ⟨h,by omega,h1.1,by omega,.inl ⟨by omega,by omega,by omega⟩⟩
theorem Mv {m r s x y:Int} (h:EuB m r s x y) (hs:0<s):0≤r/s∧r/s≤m∧0≤r/s*s∧r/s*s≤m∧r-r/s*s=r%s∧-m≤r/s*y∧r/s*y≤m∧-m≤x-r/s*y∧x-r/s*y≤m:=by
 obtain ⟨h1,h2,h3,h4,h5⟩:=h
 have q0:0≤r/s:=Int.ediv_nonneg (by omega) (by omega)
 have e:r-r/s*s=r%s:=by have:=Int.emod_add_mul_ediv r s;grind
 have e1:=Int.emod_nonneg r (show s≠0 by omega)
 have e2:r/s*s≤r:=by omega
 have q1:r/s≤r/s*s:=by
  have:=Int.mul_le_mul_of_nonneg_left (show 1≤s by omega) q0
  omega
 have q2:0≤r/s*s:=Int.mul_nonneg q0 (by omega)
 have hq:r/s≤r:=by omega
 rcases h5 with ⟨hx,hy,h6⟩|⟨hx,hy,h6⟩
 ·have a1:0≤r/s*y:=Int.mul_nonneg q0 hy
  have a2:r/s*y≤y*r:=by
   have:=Int.mul_le_mul_of_nonneg_right hq hy
   grind
  have a3:x*s≤x:=by
   have:=Int.mul_le_mul_of_nonneg_left (show 1≤s by omega) (show 0≤-x by omega)
   grind
  refine ⟨q0,by omega,q2,by omega,e,by omega,by omega,by omega,by omega⟩
 ·have a1:0≤r/s*(-y):=Int.mul_nonneg q0 (by omega)
  have a2:r/s*(-y)≤(-y)*r:=by
   have:=Int.mul_le_mul_of_nonneg_right hq (show 0≤-y by omega)
   grind
  have a3:x≤x*s:=by
   have:=Int.mul_le_mul_of_nonneg_left (show 1≤s by omega) hx
   omega
  rw [Int.mul_neg] at a1 a2
  rw [Int.neg_mul] at a2
  refine ⟨q0,by omega,q2,by omega,e,by omega,by omega,by omega,by omega⟩
theorem Td {m r s x y:Int} (h:EuB m r s x y) (hs:0<s):EuB m s (r%s) y (x-r/s*y):=by
 obtain ⟨g1,g2,g3,g4,e,g5,g6,g7,g8⟩:=Mv h hs
 obtain ⟨h1,h2,h3,h4,h5⟩:=h
 have e1:=Ag r s hs
 refine ⟨hs,h4,e1.1,by omega,?_⟩
 have hq:0≤r/s:=g1
 rcases h5 with ⟨hx,hy,h6⟩|⟨hx,hy,h6⟩
 ·refine .inr ⟨hy,?_,?_⟩
  ·have:=Int.mul_nonneg hq hy;omega
  ·rw [← e];grind
 ·refine .inl ⟨hy,?_,?_⟩
  ·have:=Int.mul_nonneg hq (show 0≤-y by omega);grind
  ·rw [← e];grind
theorem E1 (m a:Int) (h:0<m):0≤invL m a∧invL m a<m:=Ag _ m h
theorem Vu (a b:Nat):Nat.gcd b (a%b)=Nat.gcd a b:=by rw [Nat.gcd_comm a b,Nat.gcd_rec b a,Nat.gcd_comm]
theorem Dv (a m:Int) (j:Nat):(a%m)^j%m=a^j%m:=by
 induction j with
 | zero=>simp
 | succ j ih=>rw [Int.pow_succ,Int.pow_succ,Int.mul_emod,ih,Int.emod_emod,← Int.mul_emod]
theorem Ac1 (a:Int) (j:Nat):(a*a)^j=a^(2*j):=by
 rw [Int.pow_mul];congr 1;rw [Int.pow_succ,Int.pow_succ,Int.pow_zero,Int.one_mul]
theorem Y0 (out a m:Int) (k:Nat) (h:k%2=0):out*(a*a%m)^(k/2)%m=out*a^k%m:=by
 rw [← Dl,Dv,Dl,Ac1,show 2*(k/2)=k by omega]
theorem Afa (out a m:Int) (k:Nat) (h:k%2=1):(out*a%m)*(a*a%m)^(k/2)%m=out*a^k%m:=by
 rw [Fx,← Dl,Dv,Dl,Ac1,Int.mul_assoc,← Int.pow_succ',show 2*(k/2)+1=k by omega]
theorem Im (k:Nat):(k:Int).tmod 2=((k%2:Nat):Int):=by rw [tm _ _ (by omega)];omega
theorem I2 (k:Nat):(k:Int).tdiv 2=((k/2:Nat):Int):=by rw [Int.tdiv_eq_ediv_of_nonneg (by omega)];omega
def oneL (d:Nat):List Int:=tab (d+1) (fun j=>if j=0 then 1 else 0)
theorem V4 (d:Nat):(oneL d).length=d+1:=Ae _ _
theorem Ago {m:Int} (d:Nat) (hm:1<m):∀ x∈oneL d,0≤x∧x<m:=by
 intro x hx
 obtain ⟨i,_,rfl⟩:=D8.1 hx
 split <;> omega
def pwL (m:Int) (d:Nat) (out a:List Int) (k:Nat):List Int:=
 if h:k=0 then out else pwL m d (if k%2=1 then timesL m out a d else out) (timesL m a a d) (k/2)
 termination_by k
 decreasing_by omega
def powL (m:Int) (a:List Int) (k d:Nat):List Int:=pwL m d (oneL d) a k
theorem Qu {l:List Int} {x:Int} {i:Nat}:at' (l++[x]) i=if i<l.length then at' l i else if i=l.length then x else 0:=by
 unfold at'
 rw [List.getD_eq_getElem?_getD,List.getD_eq_getElem?_getD,List.getElem?_append]
 split
 ·rfl
 ·rename_i h
  by_cases e:i=l.length
  ·subst e;simp
  ·rw [if_neg e,List.getElem?_eq_none (by simp;omega)];rfl
theorem Df {n c:Nat} {f:Nat→Int} (hc:c≤n) (h:∀ i,c≤i→i<n→f i=0):sm n f=sm c f:=by
 obtain ⟨k,rfl⟩:∃ k,n=c+k:=⟨n-c,by omega⟩
 clear hc
 induction k with
 | zero=>rfl
 | succ k ih=>rw [show c+(k+1)=(c+k)+1 by omega,sm,ih (fun i h1 h2=>h i h1 (by omega)),h (c+k) (by omega) (by omega),Int.add_zero]
theorem Bt (l:List Int) (x:Int):intL l++[T.int .i64 x]=intL (l++[x]):=by simp [intL]
def spreadL (l:List Int) (n d:Nat):List Int:=tab (d+1) (fun j=>if j%n=0 then at' l (j/n) else 0)
theorem Q6 (l:List Int) (n d:Nat):(spreadL l n d).length=d+1:=Ae _ _
theorem Cd {k p:Nat} {f:Nat→Int} (hp:p<k) (h:∀ i,i<k→i≠p→f i=0):sm k f=f p:=by
 have h1:sm k f=sm (p+1) f:=Df (by omega) (fun i h1 h2=>h i h2 (by omega))
 rw [h1,sm,Az (fun i hi=>h i (by omega) (by omega)),Int.zero_add]
theorem Aei {k p q:Nat} {f:Nat→Int} (hp:p<q) (hq:q<k) (h:∀ i,i<k→i≠p→i≠q→f i=0):sm k f=f p+f q:=by
 have h1:sm k f=sm (q+1) f:=Df (by omega) (fun i h1 h2=>h i h2 (by omega) (by omega))
 rw [h1,sm,Cd hp (fun i hi hne=>h i (by omega) hne (by omega))]
def omF (m x:Int) (n j:Nat):Int:=if j=0 then 1 else if j=n then (m-x)%m else 0
def omL (m x:Int) (n d:Nat):List Int:=tab (d+1) (omF m x n)
def cR (m:Int) (d:Nat) (a:List Int):Nat→List Int
 | 0=>a
 | c+1=>timesL m (cR m d a c) (omL m (at' (cR m d a c) (c+1)) (c+1) d) d
def cL (m:Int) (a:List Int) (d:Nat):List Int:=tab d (fun c=>at' (cR m d a c) (c+1))
def ghF (x:List Int) (n e:Nat):Int:=if n%(e+1)=0 then ((e+1:Nat):Int)*at' x e^(n/(e+1)) else 0
def ghL (m:Int) (x:List Int) (d:Nat):List Int:=tab d (fun i=>sm (i+1) (ghF x (i+1))%m)
def fL (m:Int) (N d2:Nat) (x:List Int):Nat→List Int
 | 0=>oneL d2
 | c+1=>if (c+1)/Nat.gcd N (c+1)≤d2 then timesL m (fL m N d2 x c) (powL m (geo m (at' x c^(N/Nat.gcd N (c+1))%m) ((c+1)/Nat.gcd N (c+1)) d2) (Nat.gcd N (c+1)) d2) d2 else fL m N d2 x c
def numL (m:Int) (d:Nat) (l:List Int):Prop:=l.length=d+1∧∀ z∈l,0≤z∧z<m
theorem Ak3 (n:Nat) (F:Nat→Nat→Int):sm (n+1) (fun i=>sm (i+1) (fun j=>F i j))=sm (n+1) (fun j=>sm (n-j+1) (fun k=>F (j+k) j)):=by
 induction n with
 | zero=>simp [sm]
 | succ n ih=>
  have hL:sm (n+1+1) (fun i=>sm (i+1) (fun j=>F i j))=sm (n+1) (fun i=>sm (i+1) (fun j=>F i j))+sm (n+1+1) (fun j=>F (n+1) j):=rfl
  have hR:sm (n+1+1) (fun j=>sm (n+1-j+1) (fun k=>F (j+k) j))=sm (n+1) (fun j=>sm (n+1-j+1) (fun k=>F (j+k) j))+sm (n+1-(n+1)+1) (fun k=>F (n+1+k) (n+1)):=rfl
  rw [hL,hR,ih]
  have h1:sm (n+1) (fun j=>sm (n+1-j+1) (fun k=>F (j+k) j))=sm (n+1) (fun j=>sm (n-j+1) (fun k=>F (j+k) j)+F (n+1) j):=by
   refine As fun j hj=>?_
   rw [show n+1-j+1=(n-j+1)+1 by omega,sm]
   congr 1
   rw [show j+(n-j+1)=n+1 by omega]
  rw [h1,Jm,Nat.sub_self]
  have h2:sm (n+1+1) (fun j=>F (n+1) j)=sm (n+1) (fun j=>F (n+1) j)+F (n+1) (n+1):=rfl
  rw [h2]
  have h3:sm (0+1) (fun k=>F (n+1+k) (n+1))=F (n+1) (n+1):=by simp [sm]
  rw [h3]
  have h4:sm (n+1) (fun j=>F (n+1) j)=sm (n+1) (F (n+1)):=rfl
  omega
theorem Qi (f g:Nat→Int):cv f g=cv g f:=by
 funext n
 unfold cv
 rw [Ami]
 refine As fun i hi=>?_
 rw [show n+1-1-i=n-i by omega,show n-(n-i)=i by omega,Int.mul_comm]
theorem Id (f g h:Nat→Int):cv (cv f g) h=cv f (cv g h):=by
 funext n
 unfold cv
 have h1:sm (n+1) (fun i=>sm (i+1) (fun i_1=>f i_1*g (i-i_1))*h (n-i))=sm (n+1) (fun i=>sm (i+1) (fun j=>f j*g (i-j)*h (n-i))):=
  As fun i _=>(H6 _ _ _).symm
 rw [h1,Ak3 n (fun i j=>f j*g (i-j)*h (n-i))]
 refine As fun j hj=>?_
 rw [← Ch]
 refine As fun k hk=>?_
 rw [show j+k-j=k by omega,show n-(j+k)=n-j-k by omega,Int.mul_assoc]
theorem Wb (f g h:Nat→Int):cv (fun i=>f i+g i) h=fun n=>cv f h n+cv g h n:=by
 funext n
 unfold cv
 rw [← Jm]
 exact As fun i _=>Int.add_mul _ _ _
def oneF (n:Nat):Int:=if n=0 then 1 else 0
theorem I5 (f:Nat→Int):cv oneF f=f:=by
 funext n
 unfold cv
 rw [Bq,Az (fun i _=>by simp [oneF])]
 simp [oneF]
theorem Vo (f:Nat→Int):cv f oneF=f:=by rw [Qi,I5]
def pwF (f:Nat→Int):Nat→Nat→Int
 | 0=>oneF
 | k+1=>cv (pwF f k) f
def eqm (m:Int) (d:Nat) (f g:Nat→Int):Prop:=∀ n,n≤d→f n%m=g n%m
theorem eqm.rfl' {m:Int} {d:Nat} {f:Nat→Int}:eqm m d f f:=fun _ _=>rfl
theorem eqm.symm {m:Int} {d:Nat} {f g:Nat→Int} (h:eqm m d f g):eqm m d g f:=fun n hn=>(h n hn).symm
theorem eqm.trans {m:Int} {d:Nat} {f g h:Nat→Int} (h1:eqm m d f g) (h2:eqm m d g h):eqm m d f h:=fun n hn=>(h1 n hn).trans (h2 n hn)
theorem eqm.of_eq {m:Int} {d:Nat} {f g:Nat→Int} (h:f=g):eqm m d f g:=h▸eqm.rfl'
theorem eqm.mono {m:Int} {d e:Nat} {f g:Nat→Int} (h:eqm m d f g) (he:e≤d):eqm m e f g:=fun n hn=>h n (by omega)
theorem Af {a a' b b' m:Int} (h1:a%m=a'%m) (h2:b%m=b'%m):a*b%m=a'*b'%m:=by
 rw [Int.mul_emod,h1,h2,← Int.mul_emod]
theorem Bh {a a' b b' m:Int} (h1:a%m=a'%m) (h2:b%m=b'%m):(a+b)%m=(a'+b')%m:=by
 rw [Int.add_emod,h1,h2,← Int.add_emod]
theorem Q5 {a a' b b' m:Int} (h1:a%m=a'%m) (h2:b%m=b'%m):(a-b)%m=(a'-b')%m:=by
 rw [Int.sub_emod,h1,h2,← Int.sub_emod]
theorem eqm.cv {m:Int} {d:Nat} {f f' g g':Nat→Int} (h1:eqm m d f f') (h2:eqm m d g g'):eqm m d (cv f g) (cv f' g'):=fun n hn=>
 Be fun i hi=>Af (h1 i (by omega)) (h2 (n-i) (by omega))
theorem eqm.pw {m:Int} {d:Nat} {f f':Nat→Int} (h:eqm m d f f') (k:Nat):eqm m d (pwF f k) (pwF f' k):=by
 induction k with
 | zero=>exact eqm.rfl'
 | succ k ih=>exact ih.cv h
theorem eqm.add {m:Int} {d:Nat} {f f' g g':Nat→Int} (h1:eqm m d f f') (h2:eqm m d g g'):eqm m d (fun n=>f n+g n) (fun n=>f' n+g' n):=fun n hn=>Bh (h1 n hn) (h2 n hn)
theorem Sa (m:Int) (a b:List Int) (d:Nat):eqm m d (at' (timesL m a b d)) (cv (at' a) (at' b)):=fun n hn=>by
 rw [timesL,Bl (by omega),Int.emod_emod]
theorem Hp (d n:Nat) (h:n≤d):at' (oneL d) n=oneF n:=by rw [oneL,Bl (by omega)];rfl
theorem Ajy (m:Int) (d:Nat):eqm m d (at' (oneL d)) oneF:=fun n hn=>by rw [Hp d n hn]
end Go.Proofs.YtapdekacpecgiaaGreat

import Derived.Test.YtapdekacpecgiaaGreatNh
import Derived.Test.YtapdekacpecgiaaGreatBf
namespace Go.Proofs.YtapdekacpecgiaaGreat
open Go.RowKit
set_option linter.unusedSimpArgs false
set_option linter.unusedVariables false
set_option linter.unusedSectionVars false
set_option maxRecDepth 20000
set_option maxHeartbeats 1000000
theorem Aag:∀ n k,bn n k≤2^n
 | 0,0=>by rw [bn];exact Nat.le_refl _
 | 0,k+1=>by rw [bn];omega
 | n+1,0=>by rw [Zb];exact Nat.pow_pos (by omega)
 | n+1,k+1=>by
  have h1:=Aag n k
  have h2:=Aag n (k+1)
  rw [Aaa,Nat.pow_succ];omega
theorem Qo:∀ n,bn n n=1
 | 0=>rfl
 | n+1=>by rw [Aaa,Qo n,Ti n (n+1) (by omega)]
theorem Kc {n:Nat} (hn:n≤10) (k:Nat):bn n k≤1024:=by
 have h1:=Aag n k
 have h2:2^n≤2^10:=Nat.pow_le_pow_right (by omega) hn
 omega
def bnL (n j:Nat):List Int:=tab j (fun x=>((bn n x:Nat):Int))
theorem E4 (n j:Nat):(bnL n j).length=j:=Ae _ _
theorem Ht {n j x:Nat} (h:x<j):(bnL n j).getD x 0=((bn n x:Nat):Int):=Es h
theorem Jy {n j:Nat} {x:Int} (h:x=((bn n j:Nat):Int)):bnL n j++[x]=bnL n (j+1):=by rw [h];exact Gn j (fun x=>((bn n x:Nat):Int))
theorem Mz (n:Nat):[T.int .i64 1]=intL (bnL n 1):=by
 show _=[T.int .i64 ((bn n 0:Nat):Int)]
 rw [Zb];rfl
set_option maxHeartbeats 4000000 in
theorem I4 (n k:Nat) (hk:k≤n) (hn:n≤10):AFn Tryz.prog 265 [.int .i64 n,.int .i64 k] (.int .i64 (bn n k)):=by
 refine fO Tryz.func265 Tryz.ntmps265 (by rw [Tryz.results265]) fun C hP hM hC=>?_
 have zq1:¬ (n:Int)<(k:Int):=(by omega)
 (repeat (first|((with_reducible refine rC rfl fun K hK=>?_);simp only [go_sem,seval,↓reduceIte,zq1];refine hK _ _ _ ?_;clear hK K)|refine sT ?_))
 refine AWP.loop (fun x:Nat×Nat=>[(13,⟨0,.val (.int .i64 x.1)⟩),(12,⟨0,.val (.int .i64 n)⟩),(5,⟨x.2,.own (.sl true 2 (intL (bnL x.1 (x.1+1))))⟩),(1,⟨0,.val (.int .i64 k)⟩)]) (fun x=>x.1≤n) (fun x=>n-x.1) (0,1) (Nat.zero_le _) (fun x=>rfl) ?_ (fun x hx=>?_)
 ·simp [Sub,lk,← Mz]
 ·obtain ⟨i,v⟩:=x
  simp only at hx ⊢
  by_cases h:i<n
  ·have zq2:(i:Int)<(n:Int):=(by omega)
   (repeat (first|((with_reducible refine rC rfl fun K hK=>?_);simp only [go_sem,seval,↓reduceIte,zq2];refine hK _ _ _ ?_;clear hK K)|refine sT ?_))
   refine AWP.loop (fun x:Nat×Nat=>[(7,⟨0,.val (.int .i64 (x.1+1:Nat))⟩),(6,⟨x.2,.own (.sl true 2 (intL (bnL (i+1) (x.1+1))))⟩),(13,⟨0,.val (.int .i64 i)⟩),(12,⟨0,.val (.int .i64 n)⟩),(5,⟨v,.own (.sl true 2 (intL (bnL i (i+1))))⟩),(1,⟨0,.val (.int .i64 k)⟩)]) (fun x=>x.1≤i) (fun x=>i-x.1) (0,1) (Nat.zero_le _) (fun x=>rfl) ?_ (fun x hx=>?_)
   ·simp [Sub,lk,← Mz]
   ·obtain ⟨j,u⟩:=x
    simp only at hx ⊢
    have hl:=E4 i (i+1)
    have hl2:=E4 (i+1) (j+1)
    by_cases hj:j<i
    ·have b1:=Kc (show i≤10 by omega) j
     have b2:=Kc (show i≤10 by omega) (j+1)
     have es:bnL (i+1) (j+1)++[((bn i j:Nat):Int)+((bn i (j+1):Nat):Int)]=bnL (i+1) (j+1+1):=Jy (by rw [Aaa,Int.natCast_add])
     have zq3:((j+1:Nat):Int)<((i+1:Nat):Int):=(by omega);have zq4:IntKind.i64.wrap (((j+1:Nat):Int)-1)=(j:Int):=(by rw [wid _ (by omega) (by omega)];omega);have zq5:(j:Int)<((i+1:Nat):Int):=(by omega);have zq6:=Ao (bnL i (i+1)) j (by rw [hl];omega);have zq7:=Ao (bnL i (i+1)) (j+1) (by rw [hl];omega);have zq8:=Ai (bnL i (i+1)) j (by rw [hl];omega);have zq9:=Ai (bnL i (i+1)) (j+1) (by rw [hl];omega);have zq10:=wid (((bn i j:Nat):Int)+((bn i (j+1):Nat):Int)) (by omega) (by omega);have zq11:j+1+1≤1099511627776:=(by omega);have zq12:(j+1+1)*8≤140737488355328:=(by omega);have zq13:IntKind.i64.wrap (((j+1:Nat):Int)+1)=((j+1+1:Nat):Int):=(by rw [wid _ (by omega) (by omega)];omega)
     (repeat (first|((with_reducible refine rC rfl fun K hK=>?_);simp only [go_sem,seval,↓reduceIte,hl,hl2,zq3,zq4,zq5,Int.natCast_nonneg,Int.toNat_natCast,Nat.mul_one,zq6,zq7,zq8,zq9,Ht (n:=i) (j:=i+1) (x:=j) (by omega),Ht (n:=i) (j:=i+1) (x:=j+1) (by omega),zq10,Bt,es,zq11,zq12,zq13];refine hK _ _ _ ?_;clear hK K)|refine sT ?_))
     exact ⟨(j+1,u+1),by simp only;omega,by simp only;omega,by simp [Sub,lk]⟩
    ·obtain rfl:j=i:=by omega
     have es:bnL (j+1) (j+1)++[(1:Int)]=bnL (j+1) (j+1+1):=Jy (by rw [Qo];rfl)
     have zq14:¬ ((j+1:Nat):Int)<((j+1:Nat):Int):=(by omega);have zq15:j+1+1≤1099511627776:=(by omega);have zq16:(j+1+1)*8≤140737488355328:=(by omega);have zq17:=wid ((j:Int)+1) (by omega) (by omega)
     (repeat (first|((with_reducible refine rC rfl fun K hK=>?_);simp only [go_sem,seval,↓reduceIte,hl,hl2,zq14,Bt,es,zq15,zq16,zq17];refine hK _ _ _ ?_;clear hK K)|refine sT ?_))
     exact ⟨(j+1,v+1),by simp only;omega,by simp only;omega,by simp [Sub,lk]⟩
  ·obtain rfl:i=n:=by omega
   have hl:=E4 i (i+1)
   have zq18:¬ (i:Int)<(i:Int):=(by omega);have zq19:(k:Int)<((i+1:Nat):Int):=(by omega);have zq20:=Ao (bnL i (i+1)) k (by rw [hl];omega);have zq21:=Ai (bnL i (i+1)) k (by rw [hl];omega)
   (repeat (first|((with_reducible refine rC rfl fun K hK=>?_);simp only [go_sem,seval,↓reduceIte,zq18,hl,zq19,Int.natCast_nonneg,Int.toNat_natCast,Nat.mul_one,zq20,zq21,Ht (n:=i) (j:=i+1) (x:=k) (by omega)];refine hK _ _ _ ?_;clear hK K)|refine sT ?_))
   refine rt1 ?_
   rfl
set_option maxHeartbeats 4000000 in
theorem G3 (n k:Nat) (hk:k≤n) (hn:n≤10):AFn Tryz.prog 253 [.int .i64 n,.int .i64 k] (.int .i64 (bn n k)):=by
 refine fO Tryz.func253 Tryz.ntmps253 (by rw [Tryz.results253]) fun C hP hM hC=>?_
 have zq1:¬ (k:Int)<0:=(by omega);have zq2:¬ (n:Int)<(k:Int):=(by omega)
 (repeat (first|((with_reducible refine rC rfl fun K hK=>?_);simp only [go_sem,seval,↓reduceIte,zq1,zq2];refine hK _ _ _ ?_;clear hK K)|refine sT ?_))
 refine AWP.loop (fun x:Nat×Nat=>[(6,⟨0,.val (.int .i64 x.1)⟩),(0,⟨0,.val (.int .i64 n)⟩),(5,⟨x.2,.own (.sl true 2 (intL (bnL x.1 (x.1+1))))⟩),(1,⟨0,.val (.int .i64 k)⟩)]) (fun x=>x.1≤n) (fun x=>n-x.1) (0,1) (Nat.zero_le _) (fun x=>rfl) ?_ (fun x hx=>?_)
 ·simp [Sub,lk,← Mz]
 ·obtain ⟨i,v⟩:=x
  simp only at hx ⊢
  by_cases h:i<n
  ·have zq3:(i:Int)<(n:Int):=(by omega)
   (repeat (first|((with_reducible refine rC rfl fun K hK=>?_);simp only [go_sem,seval,↓reduceIte,zq3];refine hK _ _ _ ?_;clear hK K)|refine sT ?_))
   refine AWP.loop (fun x:Nat×Nat=>[(8,⟨0,.val (.int .i64 (x.1+1:Nat))⟩),(7,⟨x.2,.own (.sl true 2 (intL (bnL (i+1) (x.1+1))))⟩),(6,⟨0,.val (.int .i64 i)⟩),(0,⟨0,.val (.int .i64 n)⟩),(5,⟨v,.own (.sl true 2 (intL (bnL i (i+1))))⟩),(1,⟨0,.val (.int .i64 k)⟩)]) (fun x=>x.1≤i) (fun x=>i-x.1) (0,1) (Nat.zero_le _) (fun x=>rfl) ?_ (fun x hx=>?_)
   ·simp [Sub,lk,← Mz]
   ·obtain ⟨j,u⟩:=x
    simp only at hx ⊢
    have hl:=E4 i (i+1)
    have hl2:=E4 (i+1) (j+1)
    by_cases hj:j<i
    ·have b1:=Kc (show i≤10 by omega) j
     have b2:=Kc (show i≤10 by omega) (j+1)
     have es:bnL (i+1) (j+1)++[((bn i j:Nat):Int)+((bn i (j+1):Nat):Int)]=bnL (i+1) (j+1+1):=Jy (by rw [Aaa,Int.natCast_add])
     have zq4:((j+1:Nat):Int)<((i+1:Nat):Int):=(by omega);have zq5:IntKind.i64.wrap (((j+1:Nat):Int)-1)=(j:Int):=(by rw [wid _ (by omega) (by omega)];omega);have zq6:(j:Int)<((i+1:Nat):Int):=(by omega);have zq7:=Ao (bnL i (i+1)) j (by rw [hl];omega);have zq8:=Ao (bnL i (i+1)) (j+1) (by rw [hl];omega);have zq9:=Ai (bnL i (i+1)) j (by rw [hl];omega);have zq10:=Ai (bnL i (i+1)) (j+1) (by rw [hl];omega);have zq11:=wid (((bn i j:Nat):Int)+((bn i (j+1):Nat):Int)) (by omega) (by omega);have zq12:j+1+1≤1099511627776:=(by omega);have zq13:(j+1+1)*8≤140737488355328:=(by omega);have zq14:IntKind.i64.wrap (((j+1:Nat):Int)+1)=((j+1+1:Nat):Int):=(by rw [wid _ (by omega) (by omega)];omega)
     (repeat (first|((with_reducible refine rC rfl fun K hK=>?_);simp only [go_sem,seval,↓reduceIte,hl,hl2,zq4,zq5,zq6,Int.natCast_nonneg,Int.toNat_natCast,Nat.mul_one,zq7,zq8,zq9,zq10,Ht (n:=i) (j:=i+1) (x:=j) (by omega),Ht (n:=i) (j:=i+1) (x:=j+1) (by omega),zq11,Bt,es,zq12,zq13,zq14];refine hK _ _ _ ?_;clear hK K)|refine sT ?_))
     exact ⟨(j+1,u+1),by simp only;omega,by simp only;omega,by simp [Sub,lk]⟩
    ·obtain rfl:j=i:=by omega
     have es:bnL (j+1) (j+1)++[(1:Int)]=bnL (j+1) (j+1+1):=Jy (by rw [Qo];rfl)
     have zq15:¬ ((j+1:Nat):Int)<((j+1:Nat):Int):=(by omega);have zq16:j+1+1≤1099511627776:=(by omega);have zq17:(j+1+1)*8≤140737488355328:=(by omega);have zq18:=wid ((j:Int)+1) (by omega) (by omega)
     (repeat (first|((with_reducible refine rC rfl fun K hK=>?_);simp only [go_sem,seval,↓reduceIte,hl,hl2,zq15,Bt,es,zq16,zq17,zq18];refine hK _ _ _ ?_;clear hK K)|refine sT ?_))
     exact ⟨(j+1,v+1),by simp only;omega,by simp only;omega,by simp [Sub,lk]⟩
  ·obtain rfl:i=n:=by omega
   have hl:=E4 i (i+1)
   have zq19:¬ (i:Int)<(i:Int):=(by omega);have zq20:(k:Int)<((i+1:Nat):Int):=(by omega);have zq21:=Ao (bnL i (i+1)) k (by rw [hl];omega);have zq22:=Ai (bnL i (i+1)) k (by rw [hl];omega)
   (repeat (first|((with_reducible refine rC rfl fun K hK=>?_);simp only [go_sem,seval,↓reduceIte,zq19,hl,zq20,Int.natCast_nonneg,Int.toNat_natCast,Nat.mul_one,zq21,zq22,Ht (n:=i) (j:=i+1) (x:=k) (by omega)];refine hK _ _ _ ?_;clear hK K)|refine sT ?_))
   refine rt1 ?_
   rfl
def bdN (n:Nat):Nat→Nat
 | 0=>0
 | k+1=>Nat.gcd (bdN n k) (bn n (k+1))
theorem Zk {n:Nat} (hn:n≤10):∀ k,bdN n k≤1024
 | 0=>Nat.zero_le _
 | k+1=>by
  have h1:=Zk hn k
  have h2:=Kc hn (k+1)
  rw [bdN]
  rcases Nat.eq_zero_or_pos (bdN n k) with e|e
  ·rw [e,Nat.gcd_zero_left];exact h2
  ·have:=Nat.gcd_le_left (bn n (k+1)) e;omega
theorem I8 (n:Nat) (h1:1≤n) (hn:n≤10):AFn Tryz.prog 264 [.int .i64 n] (.int .i64 (bdN n (n-1))):=by
 refine fO Tryz.func264 Tryz.ntmps264 (by rw [Tryz.results264]) fun C hP hM hC=>?_
 (repeat (first|((with_reducible refine rC rfl fun K hK=>?_);simp only [go_sem,seval,↓reduceIte];refine hK _ _ _ ?_;clear hK K)|refine sT ?_))
 refine AWP.loop (fun k:Nat=>[(4,⟨0,.val (.int .i64 (k+1:Nat))⟩),(3,⟨0,.val (.int .i64 (bdN n k))⟩),(0,⟨0,.val (.int .i64 n)⟩)]) (fun k=>k≤n-1) (fun k=>n-1-k) 0 (Nat.zero_le _) (fun x=>rfl) ?_ (fun k hk=>?_)
 ·simp [Sub,lk,bdN]
 ·by_cases h:k<n-1
  ·have b1:=Zk hn k
   have b2:=Kc hn (k+1)
   have cB:=I4 n (k+1) (by omega) hn
   have cG:=Aai (bdN n k) (bn n (k+1)) (by omega) (by omega)
   rw [show Nat.gcd (bdN n k) (bn n (k+1))=bdN n (k+1) from rfl] at cG
   have zq1:((k+1:Nat):Int)<(n:Int):=(by omega);have zq2:IntKind.i64.wrap (((k+1:Nat):Int)+1)=((k+1+1:Nat):Int):=(by rw [wid _ (by omega) (by omega)];omega)
   (repeat (first|((with_reducible refine rC rfl fun K hK=>?_);simp only [go_sem,seval,↓reduceIte,zq1,zq2];(first|refine hK _ _ _ ?_|refine ⟨_,cB,hK _ _ _ ?_⟩|refine ⟨_,cG,hK _ _ _ ?_⟩);clear hK K)|refine sT ?_))
   exact ⟨k+1,by omega,by omega,by simp [Sub,lk]⟩
  ·obtain rfl:k=n-1:=by omega
   have zq3:¬ ((n-1+1:Nat):Int)<(n:Int):=(by omega)
   (repeat (first|((with_reducible refine rC rfl fun K hK=>?_);simp only [go_sem,seval,↓reduceIte,zq3];refine hK _ _ _ ?_;clear hK K)|refine sT ?_))
   refine rt1 ?_
   rfl
theorem Oo (n:Nat) (h1:1≤n) (hn:n≤10):AFn Tryz.prog 252 [.int .i64 n] (.int .i64 (bdN n (n-1))):=by
 refine fO Tryz.func252 Tryz.ntmps252 (by rw [Tryz.results252]) fun C hP hM hC=>?_
 (repeat (first|((with_reducible refine rC rfl fun K hK=>?_);simp only [go_sem,seval,↓reduceIte];refine hK _ _ _ ?_;clear hK K)|refine sT ?_))
 refine AWP.loop (fun k:Nat=>[(4,⟨0,.val (.int .i64 (k+1:Nat))⟩),(3,⟨0,.val (.int .i64 (bdN n k))⟩),(0,⟨0,.val (.int .i64 n)⟩)]) (fun k=>k≤n-1) (fun k=>n-1-k) 0 (Nat.zero_le _) (fun x=>rfl) ?_ (fun k hk=>?_)
 ·simp [Sub,lk,bdN]
 ·by_cases h:k<n-1
  ·have b1:=Zk hn k
   have b2:=Kc hn (k+1)
   have cB:=G3 n (k+1) (by omega) hn
   have cG:=Lc (bdN n k) (bn n (k+1)) (by omega) (by omega)
   rw [show Nat.gcd (bdN n k) (bn n (k+1))=bdN n (k+1) from rfl] at cG
   have zq1:((k+1:Nat):Int)<(n:Int):=(by omega);have zq2:IntKind.i64.wrap (((k+1:Nat):Int)+1)=((k+1+1:Nat):Int):=(by rw [wid _ (by omega) (by omega)];omega)
   (repeat (first|((with_reducible refine rC rfl fun K hK=>?_);simp only [go_sem,seval,↓reduceIte,zq1,zq2];(first|refine hK _ _ _ ?_|refine ⟨_,cB,hK _ _ _ ?_⟩|refine ⟨_,cG,hK _ _ _ ?_⟩);clear hK K)|refine sT ?_))
   exact ⟨k+1,by omega,by omega,by simp [Sub,lk]⟩
  ·obtain rfl:k=n-1:=by omega
   have zq3:¬ ((n-1+1:Nat):Int)<(n:Int):=(by omega)
   (repeat (first|((with_reducible refine rC rfl fun K hK=>?_);simp only [go_sem,seval,↓reduceIte,zq3];refine hK _ _ _ ?_;clear hK K)|refine sT ?_))
   refine rt1 ?_
   rfl
def lzL (n d:Nat):Nat→List Int
 | 0=>tab (n+1) (fun _=>0)
 | i+1=>(lzL n d i).set (i+1) ((bn n (i+1)/d:Nat):Int)
theorem K1 (n d:Nat):∀ i,(lzL n d i).length=n+1
 | 0=>Ae _ _
 | i+1=>by rw [lzL,List.length_set,K1 n d i]
theorem So (n d:Nat) (h1:1≤n) (hn:n≤10) (hd:bdN n (n-1)=d) (hd0:0<d):AFn Tryz.prog 245 [.int .i64 n] (.sl true 2 (intL (lzL n d (n-1)))):=by
 refine fO Tryz.func245 Tryz.ntmps245 (by rw [Tryz.results245]) fun C hP hM hC=>?_
 have cD:=I8 n h1 hn
 rw [hd] at cD
 have zq1:=wid ((n:Int)+1) (by omega) (by omega);have zq2:(0:Int)≤(n:Int)+1:=(by omega);have zq3:((n:Int)+1).toNat=n+1:=(by omega);have zq4:(n:Int)+1≤1099511627776:=(by omega)
 (repeat (first|((with_reducible refine rC rfl fun K hK=>?_);simp only [go_sem,seval,↓reduceIte,zq1,zq2,zq3,zq4,C6,Fk];(first|refine hK _ _ _ ?_|refine ⟨_,cD,hK _ _ _ ?_⟩);clear hK K)|refine sT ?_))
 refine AWP.loop (fun i:Nat=>[(5,⟨0,.val (.int .i64 (i+1:Nat))⟩),(4,⟨1,.own (.sl true 2 (intL (lzL n d i)))⟩),(3,⟨0,.val (.int .i64 d)⟩),(0,⟨0,.val (.int .i64 n)⟩)]) (fun i=>i≤n-1) (fun i=>n-1-i) 0 (Nat.zero_le _) (fun x=>rfl) ?_ (fun i hi=>?_)
 ·simp [Sub,lk,lzL]
 ·have hl:=K1 n d i
  by_cases h:i<n-1
  ·have b2:=Kc hn (i+1)
   have cB:=I4 n (i+1) (by omega) hn
   have hdv:=Nat.div_le_self (bn n (i+1)) d
   have td:((bn n (i+1):Nat):Int).tdiv (d:Int)=((bn n (i+1)/d:Nat):Int):=by rw [Int.tdiv_eq_ediv_of_nonneg (by omega)];rfl
   have hwd:IntKind.i64.wrap ((bn n (i+1)/d:Nat):Int)=((bn n (i+1)/d:Nat):Int):=by
    clear td
    generalize bn n (i+1)/d=e at *
    exact wid _ (by omega) (by omega)
   have hlen:i+1<(lzL n d i).length:=by omega
   have zq5:((i+1:Nat):Int)<(n:Int):=(by omega);have zq6:(d:Int)≠0:=(by omega);have zq7:((i+1:Nat):Int)<((n+1:Nat):Int):=(by omega);have zq8:(i:Int)<(n:Int):=(by omega);have zq9:(lzL n d i).set (i+1) ((bn n (i+1)/d:Nat):Int)=lzL n d (i+1):=rfl;have zq10:IntKind.i64.wrap (((i+1:Nat):Int)+1)=((i+1+1:Nat):Int):=(by rw [wid _ (by omega) (by omega)];omega)
   (repeat (first|((with_reducible refine rC rfl fun K hK=>?_);simp only [go_sem,seval,↓reduceIte,zq5,td,zq6,hwd,hl,zq7,zq8,Int.natCast_nonneg,Int.toNat_natCast,Nat.mul_one,Ao _ _ hlen,Ai _ _ (Nat.le_of_lt hlen),B7,zq9,zq10];(first|refine hK _ _ _ ?_|refine ⟨_,cB,hK _ _ _ ?_⟩);clear hK K)|refine sT ?_))
   exact ⟨i+1,by omega,by omega,by simp [Sub,lk]⟩
  ·obtain rfl:i=n-1:=by omega
   have zq11:¬ ((n-1+1:Nat):Int)<(n:Int):=(by omega)
   (repeat (first|((with_reducible refine rC rfl fun K hK=>?_);simp only [go_sem,seval,↓reduceIte,zq11];refine hK _ _ _ ?_;clear hK K)|refine sT ?_))
   refine rt1 ?_
   rfl
theorem Aeu {p k:Nat} (hp:p=2∨p=3∨p=5∨p=7) (hk:p^(k+1)≤10):bdN (p^(k+1)) (p^(k+1)-1)=p∧lzL (p^(k+1)) p (p^(k+1)-1)=cocL (p^(k+1)):=by
 have hk':k=0∨k=1∨k=2∨3≤k:=by omega
 have big:3≤k→10<p^(k+1):=fun e=>by
  have h1:p^4≤p^(k+1):=Nat.pow_le_pow_right (by omega) (by omega)
  have h2:2^4≤p^4:=Nat.pow_le_pow_left (by omega) 4
  omega
 rcases hp with rfl|rfl|rfl|rfl <;> rcases hk' with rfl|rfl|rfl|hk'
 all_goals first
  | (have:=big hk';omega)
  | omega
  | (exact ⟨by decide,by decide⟩)
  | (exact ⟨rfl,rfl⟩)
def fitB (m:Int) (l c:List Int) (x i:Nat):Bool:=decide (∀ j,j<i→at' l j=(x:Int)*at' c j%m)
theorem L2 (m:Int) (l c:List Int) (x i:Nat):fitB m l c x (i+1)=(fitB m l c x i&&decide (at' l i=(x:Int)*at' c i%m)):=by
 rw [Bool.eq_iff_iff]
 simp only [fitB,decide_eq_true_eq,Bool.and_eq_true]
 refine ⟨fun h=>⟨fun j hj=>h j (by omega),h i (by omega)⟩,fun h j hj=>?_⟩
 by_cases e:j=i
 ·rw [e];exact h.2
 ·exact h.1 j (by omega)
theorem Rq (m:Int) (l c:List Int) (x:Nat):fitB m l c x 0=true:=by simp [fitB]
set_option maxHeartbeats 8000000 in
theorem Pw (m:Int) (l c:List Int) (n x0:Nat) (hm:1<m) (hm2:m≤10000) (hn:n≤10) (hl:l.length=n+1) (hl0:∀ x∈l,0≤x∧x<m) (hcl:c.length=n+1) (hc0:∀ x∈c,0≤x∧x<2000) (cZ:AFn Tryz.prog 245 [.int .i64 n] (.sl true 2 (intL c))) (hx0:(x0:Int)<m) (hfit:fitB m l c x0 (n+1)=true) (hun:∀ x,x<x0→fitB m l c x (n+1)=false):AFn Tryz.prog 206 [.int .i64 m,.sl false 2 (intL l)] (.int .i64 x0):=by
 refine fO Tryz.func206 Tryz.ntmps206 (by rw [Tryz.results206]) fun C hP hM hC=>?_
 have zq1:IntKind.i64.wrap (((n+1:Nat):Int)-1)=(n:Int):=(by rw [wid _ (by omega) (by omega)];omega)
 (repeat (first|((with_reducible refine rC rfl fun K hK=>?_);simp only [go_sem,seval,↓reduceIte,hl,zq1];(first|refine hK _ _ _ ?_|refine ⟨_,cZ,hK _ _ _ ?_⟩);clear hK K)|refine sT ?_))
 refine AWP.loop (fun x:Nat=>[(15,⟨0,.val (.int .i64 x)⟩),(14,⟨0,.val (.int .i64 m)⟩),(5,⟨1,.own (.sl true 2 (intL c))⟩),(0,⟨0,.val (.int .i64 m)⟩),(1,⟨0,.val (.sl false 2 (intL l))⟩)]) (fun x=>x≤x0) (fun x=>x0-x) 0 (Nat.zero_le _) (fun x=>rfl) ?_ (fun x hx=>?_)
 ·simp [Sub,lk]
 ·have zq2:(x:Int)<m:=(by omega)
  (repeat (first|((with_reducible refine rC rfl fun K hK=>?_);simp only [go_sem,seval,↓reduceIte,zq2];refine hK _ _ _ ?_;clear hK K)|refine sT ?_))
  refine AWP.loop (fun i:Nat=>[(20,⟨0,.val (.int .i64 i)⟩),(19,⟨0,.val (.int .i64 (n+1:Nat))⟩),(18,⟨0,.val (.sl false 2 (intL l))⟩),(7,⟨0,.val (.bool (fitB m l c x i))⟩),(6,⟨0,.val (.int .i64 x)⟩),(15,⟨0,.val (.int .i64 x)⟩),(14,⟨0,.val (.int .i64 m)⟩),(5,⟨1,.own (.sl true 2 (intL c))⟩),(0,⟨0,.val (.int .i64 m)⟩),(1,⟨0,.val (.sl false 2 (intL l))⟩)]) (fun i=>i≤n+1) (fun i=>n+1-i) 0 (Nat.zero_le _) (fun i=>rfl) ?_ (fun i hi=>?_)
  ·simp [Sub,lk,hl,Rq]
  ·by_cases h:i<n+1
   ·cases hf:fitB m l c x i with
    | false=>
     have e:fitB m l c x (i+1)=false:=by rw [L2,hf];rfl
     have zq3:(i:Int)<((n+1:Nat):Int):=(by omega);have zq4:=Ac l i (by omega);have zq5:=wid ((i:Int)+1) (by omega) (by omega)
     (repeat (first|((with_reducible refine rC rfl fun K hK=>?_);simp only [go_sem,seval,↓reduceIte,zq3,hl,Int.natCast_nonneg,Int.toNat_natCast,zq4,hf,zq5];refine hK _ _ _ ?_;clear hK K)|refine sT ?_))
     exact ⟨i+1,by omega,by omega,by simp [Sub,lk,e]⟩
    | true=>
     have bl:=A4 hl0 (by omega) i
     have bc:=A4 hc0 (by omega) i
     have bcm:=Ag (at' c i) m (by omega)
     have hxc:(x:Int)*(at' c i%m)≤10000*10000:=Int.mul_le_mul (by omega) (by omega) bcm.1 (by omega)
     have hxc0:=Int.mul_nonneg (Int.natCast_nonneg x) bcm.1
     have c1:=Cr (at' l i) m (by omega) (by omega)
     rw [Int.emod_eq_of_lt bl.1 bl.2] at c1
     have c2:=Cr ((x:Int)*(at' c i%m)) m (by omega) (by omega)
     rw [Dl] at c2
     have e:fitB m l c x (i+1)=(at' l i==(x:Int)*at' c i%m):=by
      rw [L2,hf,Bool.true_and,Bool.eq_iff_iff];simp
     have zq6:(i:Int)<((n+1:Nat):Int):=(by omega);have zq7:=Ac l i (by omega);have zq8:l.getD i 0=at' l i:=rfl;have zq9:=Ao c i (by omega);have zq10:=Ai c i (by omega);have zq11:c.getD i 0=at' c i:=rfl;have zq12:=tm (at' c i) m bc.1;have zq13:m≠0:=(by omega);have zq14:=wid ((x:Int)*(at' c i%m)) (by omega) (by omega);have zq15:=wid ((i:Int)+1) (by omega) (by omega)
     (repeat (first|((with_reducible refine rC rfl fun K hK=>?_);simp only [go_sem,seval,↓reduceIte,zq6,hl,hcl,Int.natCast_nonneg,Int.toNat_natCast,Nat.mul_one,zq7,zq8,zq9,zq10,zq11,zq12,zq13,hf,zq14,zq15];(first|refine hK _ _ _ ?_|refine ⟨_,c1,hK _ _ _ ?_⟩|refine ⟨_,c2,hK _ _ _ ?_⟩);clear hK K)|refine sT ?_))
     exact ⟨i+1,by omega,by omega,by simp [Sub,lk,e]⟩
   ·obtain rfl:i=n+1:=by omega
    by_cases he:x=x0
    ·subst he
     have zq16:¬ ((n+1:Nat):Int)<((n+1:Nat):Int):=(by omega)
     (repeat (first|((with_reducible refine rC rfl fun K hK=>?_);simp only [go_sem,seval,↓reduceIte,zq16,hfit];refine hK _ _ _ ?_;clear hK K)|refine sT ?_))
     refine rt1 ?_
     rfl
    ·have hu:=hun x (by omega)
     have zq17:¬ ((n+1:Nat):Int)<((n+1:Nat):Int):=(by omega);have zq18:=wid ((x:Int)+1) (by omega) (by omega)
     (repeat (first|((with_reducible refine rC rfl fun K hK=>?_);simp only [go_sem,seval,↓reduceIte,zq17,hu,zq18];refine hK _ _ _ ?_;clear hK K)|refine sT ?_))
     exact ⟨x+1,by omega,by omega,by simp [Sub,lk]⟩
def ccI (m:Int) (n d:Nat):Nat→List (List Int)
 | 0=>tab2 (n+1) (fun _ _=>0)
 | i+1=>put2 (ccI m n d i) (i+1) (n-(i+1)) (((bn n (i+1)/d:Nat):Int)%m)
theorem O5 {m:Int} (hm:0<m) (n d:Nat):∀ i,Pl m (n+1) (ccI m n d i)
 | 0=>zeroPl hm _
 | i+1=>(O5 hm n d i).put (Ag _ m hm) _ _
theorem Adg {m:Int} (hm:0<m) (n d:Nat):∀ i,i≤n→∀ u v,u+v=n→pc (ccI m n d i) u v=at' (lzL n d i) u%m
 | 0,_,u,v,h=>by rw [ccI,Bc (by omega),lzL,Bl (by omega)];rfl
 | i+1,hi,u,v,h=>by
  rw [ccI,pcPut (O5 hm n d i) (by omega),lzL,Fb (by rw [K1];omega),Adg hm n d i (by omega) u v h]
  by_cases e:u=i+1
  ·rw [if_pos ⟨e,by omega⟩,if_pos e]
  ·rw [if_neg (fun x=>e x.1),if_neg e]
set_option maxHeartbeats 4000000 in
theorem M9 (m:Int) (n d:Nat) (hm:1<m) (hm2:m≤10000) (h1:1≤n) (hn:n≤10) (hd:bdN n (n-1)=d) (hd0:0<d):AFn Tryz.prog 212 [.int .i64 m,.int .i64 n] (.sl true 27 (rowsO (ccI m n d (n-1)))):=by
 refine fO Tryz.func212 Tryz.ntmps212 (by rw [Tryz.results212]) fun C hP hM hC=>?_
 have cD:=Oo n h1 hn
 rw [hd] at cD
 have cZ:=Ea n (by omega)
 (repeat (first|((with_reducible refine rC rfl fun K hK=>?_);simp only [go_sem,seval,↓reduceIte];(first|refine hK _ _ _ ?_|refine ⟨_,cZ,hK _ _ _ ?_⟩|refine ⟨_,cD,hK _ _ _ ?_⟩);clear hK K)|refine sT ?_))
 refine AWP.loop (fun i:Nat=>[(7,⟨0,.val (.int .i64 (i+1:Nat))⟩),(5,⟨1,.own (.sl true 27 (rowsO (ccI m n d i)))⟩),(6,⟨0,.val (.int .i64 d)⟩),(0,⟨0,.val (.int .i64 m)⟩),(1,⟨0,.val (.int .i64 n)⟩)]) (fun i=>i≤n-1) (fun i=>n-1-i) 0 (Nat.zero_le _) (fun x=>rfl) ?_ (fun i hi=>?_)
 ·simp [Sub,lk,ccI]
 ·have pi:=O5 (show 0<m by omega) n d i
  by_cases h:i<n-1
  ·have b2:=Kc hn (i+1)
   have cB:=G3 n (i+1) (by omega) hn
   have hdv:=Nat.div_le_self (bn n (i+1)) d
   have td:((bn n (i+1):Nat):Int).tdiv (d:Int)=((bn n (i+1)/d:Nat):Int):=by rw [Int.tdiv_eq_ediv_of_nonneg (by omega)];rfl
   have hwd:IntKind.i64.wrap ((bn n (i+1)/d:Nat):Int)=((bn n (i+1)/d:Nat):Int):=by
    clear td
    generalize bn n (i+1)/d=e at *
    exact wid _ (by omega) (by omega)
   have htm:((bn n (i+1)/d:Nat):Int).tmod m=((bn n (i+1)/d:Nat):Int)%m:=tm _ m (Int.natCast_nonneg _)
   have eN:put2 (ccI m n d i) (i+1) (n-(i+1)) (((bn n (i+1)/d:Nat):Int)%m)=ccI m n d (i+1):=rfl
   generalize hy:ccI m n d i=y at *
   have s1:IntKind.i64.wrap ((n:Int)-((i+1:Nat):Int))=((n-(i+1):Nat):Int):=by rw [wid _ (by omega) (by omega)];omega
   generalize hcx:n-(i+1)=cx at *
   have hc1:cx+i+1=n:=by omega
   have zq1:((i+1:Nat):Int)<(n:Int):=(by omega);have zq2:((i+1:Nat):Int)<((n+1:Nat):Int):=(by omega);have zq3:(i:Int)<(n:Int):=(by omega);have zq4:(cx:Int)<((n+1-(i+1):Nat):Int):=(by omega);have zq5:(cx:Int)<((n-i:Nat):Int):=(by omega);have zq6:(0:Int)≤1:=(by omega);have zq7:(1:Int).toNat=1:=rfl;have zq8:=Aw (y) (i+1) (by rw [(pi).len];omega);have zq9:=A2 (y) (i+1) (by rw [(pi).len];omega);have zq10:=Gk (y) (i+1) (cx) (((bn n (i+1)/d:Nat):Int)%m) (by rw [(pi).len];omega);have zq11:(d:Int)≠0:=(by omega);have zq12:m≠0:=(by omega);have zq13:IntKind.i64.wrap (((i+1:Nat):Int)+1)=((i+1+1:Nat):Int):=(by rw [wid _ (by omega) (by omega)];omega)
   (repeat (first|((with_reducible refine rC rfl fun K hK=>?_);simp only [go_sem,seval,↓reduceIte,zq1,s1,zq2,zq3,zq4,zq5,Int.natCast_nonneg,Int.toNat_natCast,Nat.mul_one,Int.le_refl,Int.toNat_zero,List.take_zero,Nat.zero_mul,zq6,zq7,Nat.sub_zero,At,(pi).len,zq8,zq9,(pi).row (i+1) (by omega),Ao ((y).getD (i+1) []) (cx) (by rw [(pi).row _ (by omega)];omega),Ai ((y).getD (i+1) []) (cx) (by rw [(pi).row _ (by omega)];omega),zq10,td,zq11,hwd,htm,zq12,eN,zq13];(first|refine hK _ _ _ ?_|refine ⟨_,cB,hK _ _ _ ?_⟩);clear hK K)|refine sT ?_))
   exact ⟨i+1,by omega,by omega,by simp [Sub,lk]⟩
  ·obtain rfl:i=n-1:=by omega
   have zq14:¬ ((n-1+1:Nat):Int)<(n:Int):=(by omega)
   (repeat (first|((with_reducible refine rC rfl fun K hK=>?_);simp only [go_sem,seval,↓reduceIte,zq14];refine hK _ _ _ ?_;clear hK K)|refine sT ?_))
   refine rt1 ?_
   rfl
theorem St (m:Int) (f g:List (List Int)) (n:Nat) (hm:1<m) (hm2:m≤10000) (hf:Pl m n f) (hg:Pl m n g) (hn:n≤1000):AFn Tryz.prog 131 [.int .i64 m,.sl false 27 (rowsF f),.sl false 27 (rowsF g)] (.sl true 27 (rowsO (sadT m n g (sscT m (m-1) n f)))):=by
 refine fO Tryz.func131 Tryz.ntmps131 (by rw [Tryz.results131]) fun C hP hM hC=>?_
 have c1:=P0 m (m-1) f n (by omega) hm2 (by omega) hf hn
 have pS:=Y3 (m:=m) (by omega) (m-1) n f
 have c2:=Sg m g (sscT m (m-1) n f) n (by omega) hm2 hg pS hn
 have zq1:=wid (m-1) (by omega) (by omega)
 (repeat (first|((with_reducible refine rC rfl fun K hK=>?_);simp only [go_sem,seval,↓reduceIte,zq1];(first|refine hK _ _ _ ?_|refine ⟨_,c1,hK _ _ _ ?_⟩|refine ⟨_,c2,hK _ _ _ ?_⟩);clear hK K)|refine sT ?_))
 refine rt1 ?_
 rfl
set_option maxHeartbeats 8000000 in
theorem Ow (m:Int) (t b:List (List Int)) (c:List Int) (n x0:Nat) (hm:1<m) (hm2:m≤10000) (hn:n≤10) (ht:Pl m (n+1) t) (hb:Pl m (n+1) b) (hbc:∀ u v,u+v=n→pc b u v=at' c u%m) (cZ:AFn Tryz.prog 212 [.int .i64 m,.int .i64 n] (.sl true 27 (rowsO b))) (hx0:(x0:Int)<m) (l:List Int) (hlt:∀ u v,u+v=n→pc t u v=at' l u) (hfit:fitB m l c x0 (n+1)=true) (hun:∀ x,x<x0→fitB m l c x (n+1)=false):AFn Tryz.prog 130 [.int .i64 m,.sl false 27 (rowsF t)] (.int .i64 x0):=by
 refine fO Tryz.func130 Tryz.ntmps130 (by rw [Tryz.results130]) fun C hP hM hC=>?_
 have zq1:IntKind.i64.wrap (((n+1:Nat):Int)-1)=(n:Int):=(by rw [wid _ (by omega) (by omega)];omega)
 (repeat (first|((with_reducible refine rC rfl fun K hK=>?_);simp only [go_sem,seval,↓reduceIte,Aa,ht.len,zq1];(first|refine hK _ _ _ ?_|refine ⟨_,cZ,hK _ _ _ ?_⟩);clear hK K)|refine sT ?_))
 refine AWP.loop (fun x:Nat=>[(7,⟨0,.val (.int .i64 x)⟩),(5,⟨0,.val (.int .i64 n)⟩),(6,⟨1,.own (.sl true 27 (rowsO b))⟩),(0,⟨0,.val (.int .i64 m)⟩),(1,⟨0,.val (.sl false 27 (rowsF t))⟩)]) (fun x=>x≤x0) (fun x=>x0-x) 0 (Nat.zero_le _) (fun x=>rfl) ?_ (fun x hx=>?_)
 ·simp [Sub,lk]
 ·have zq2:(x:Int)<m:=(by omega)
  (repeat (first|((with_reducible refine rC rfl fun K hK=>?_);simp only [go_sem,seval,↓reduceIte,zq2];refine hK _ _ _ ?_;clear hK K)|refine sT ?_))
  refine AWP.loop (fun i:Nat=>[(9,⟨0,.val (.int .i64 i)⟩),(8,⟨0,.val (.bool (fitB m l c x i))⟩),(7,⟨0,.val (.int .i64 x)⟩),(5,⟨0,.val (.int .i64 n)⟩),(6,⟨1,.own (.sl true 27 (rowsO b))⟩),(0,⟨0,.val (.int .i64 m)⟩),(1,⟨0,.val (.sl false 27 (rowsF t))⟩)]) (fun i=>i≤n+1) (fun i=>n+1-i) 0 (Nat.zero_le _) (fun i=>rfl) ?_ (fun i hi=>?_)
  ·simp [Sub,lk,Rq]
  ·by_cases h:i<n+1
   ·cases hf:fitB m l c x i with
    | false=>
     have hne:x≠x0:=fun e=>by
      have h9:fitB m l c x0 i=true:=by
       simp only [fitB,decide_eq_true_eq] at hfit ⊢
       exact fun j hj=>hfit j (by omega)
      rw [← e,hf] at h9
      exact absurd h9 (by simp)
     have zq3:(i:Int)≤(n:Int):=(by omega);have zq4:=wid ((x:Int)+1) (by omega) (by omega)
     (repeat (first|((with_reducible refine rC rfl fun K hK=>?_);simp only [go_sem,seval,↓reduceIte,zq3,hf,zq4];refine hK _ _ _ ?_;clear hK K)|refine sT ?_))
     exact ⟨x+1,by omega,by omega,by simp [Sub,lk]⟩
    | true=>
     have s1:IntKind.i64.wrap ((n:Int)-(i:Int))=((n-i:Nat):Int):=by rw [wid _ (by omega) (by omega)];omega
     have e1:=hbc i (n-i) (by omega)
     have e2:=hlt i (n-i) (by omega)
     have bb:=hb.num i (n-i)
     have rb:=hb.row i (by omega)
     have rt:=ht.row i (by omega)
     have hxc:(x:Int)*pc b i (n-i)≤10000*10000:=Int.mul_le_mul (by omega) (by omega) bb.1 (by omega)
     have hxc0:=Int.mul_nonneg (Int.natCast_nonneg x) bb.1
     have e:fitB m l c x (i+1)=((x:Int)*pc b i (n-i)%m==pc t i (n-i)):=by
      rw [L2,hf,Bool.true_and,e1,e2,Dl,Bool.eq_iff_iff]
      simp only [decide_eq_true_eq,beq_iff_eq]
      exact eq_comm
     have lb:(b.getD i []).length=n+1-i:=rb
     have lt:(t.getD i []).length=n+1-i:=rt
     generalize hcx:n-i=cx at *
     have hc1:cx+i=n:=by omega
     have zq5:(i:Int)≤(n:Int):=(by omega);have zq6:(i:Int)<((n+1:Nat):Int):=(by omega);have zq7:(cx:Int)<((n+1-i:Nat):Int):=(by omega);have zq8:=Ad t i (by rw [ht.len];omega);have zq9:=Ac (t.getD i []) cx (by rw [lt];omega);have zq10:(t.getD i []).getD cx 0=pc t i cx:=rfl;have zq11:=Aw b i (by rw [hb.len];omega);have zq12:=A2 b i (by rw [hb.len];omega);have zq13:=Ao (b.getD i []) cx (by rw [lb];omega);have zq14:=Ai (b.getD i []) cx (by rw [lb];omega);have zq15:(b.getD i []).getD cx 0=pc b i cx:=rfl;have zq16:=wid ((x:Int)*pc b i cx) (by omega) (by omega);have zq17:=tm ((x:Int)*pc b i cx) m hxc0;have zq18:m≠0:=(by omega);have zq19:=wid ((i:Int)+1) (by omega) (by omega)
     (repeat (first|((with_reducible refine rC rfl fun K hK=>?_);simp only [go_sem,seval,↓reduceIte,zq5,hf,s1,zq6,zq7,Int.natCast_nonneg,Int.toNat_natCast,Nat.mul_one,Aa,At,hb.len,ht.len,zq8,zq9,lt,lb,zq10,zq11,zq12,zq13,zq14,zq15,zq16,zq17,zq18,zq19];refine hK _ _ _ ?_;clear hK K)|refine sT ?_))
     exact ⟨i+1,by omega,by omega,by simp [Sub,lk,e]⟩
   ·obtain rfl:i=n+1:=by omega
    by_cases he:x=x0
    ·subst he
     have zq20:¬ ((n+1:Nat):Int)≤(n:Int):=(by omega)
     (repeat (first|((with_reducible refine rC rfl fun K hK=>?_);simp only [go_sem,seval,↓reduceIte,zq20,hfit];refine hK _ _ _ ?_;clear hK K)|refine sT ?_))
     refine rt1 ?_
     rfl
    ·have hu:=hun x (by omega)
     have zq21:¬ ((n+1:Nat):Int)≤(n:Int):=(by omega);have zq22:=wid ((x:Int)+1) (by omega) (by omega)
     (repeat (first|((with_reducible refine rC rfl fun K hK=>?_);simp only [go_sem,seval,↓reduceIte,zq21,hu,zq22];refine hK _ _ _ ?_;clear hK K)|refine sT ?_))
     exact ⟨x+1,by omega,by omega,by simp [Sub,lk]⟩
theorem Yn {p k:Nat} (hp:p=2∨p=3∨p=5∨p=7) (hk:p^(k+1)≤10) {m y:Int} (hm:1<m) {l:List Int} (hl:∀ i,i<p^(k+1)+1→at' l i=y*at' (cocL (p^(k+1))) i%m):(((y%m).toNat:Nat):Int)<m∧fitB m l (cocL (p^(k+1))) (y%m).toNat (p^(k+1)+1)=true∧∀ x,x<(y%m).toNat→fitB m l (cocL (p^(k+1))) x (p^(k+1)+1)=false:=by
 have hb:=Ag y m (by omega)
 have hc:(((y%m).toNat:Nat):Int)=y%m:=by omega
 refine ⟨by omega,?_,fun x hx=>?_⟩
 ·simp only [fitB,decide_eq_true_eq]
  intro j hj
  rw [hl j hj,hc,Fx]
 ·refine Bool.eq_false_iff.2 fun e=>?_
  simp only [fitB,decide_eq_true_eq] at e
  have h1:(x:Int)%m=y%m:=Abk hp hk fun i hi=>by rw [← e i (by omega),hl i (by omega)]
  rw [Int.emod_eq_of_lt (by omega) (by omega)] at h1
  omega
theorem Alx {p k:Nat} (hp:p=2∨p=3∨p=5∨p=7) (hk:p^(k+1)≤10):(cocL (p^(k+1))).length=p^(k+1)+1∧∀ x∈cocL (p^(k+1)),0≤x∧x<2000:=by
 have hk':k=0∨k=1∨k=2∨3≤k:=by omega
 have big:3≤k→10<p^(k+1):=fun e=>by
  have h1:p^4≤p^(k+1):=Nat.pow_le_pow_right (by omega) (by omega)
  have h2:2^4≤p^4:=Nat.pow_le_pow_left (by omega) 4
  omega
 rcases hp with rfl|rfl|rfl|rfl <;> rcases hk' with rfl|rfl|rfl|hk'
 all_goals first
  | (have:=big hk';omega)
  | omega
  | (exact ⟨by decide,by decide⟩)
end Go.Proofs.YtapdekacpecgiaaGreat

import Derived.Test.YtapdekacpecgiaaGreatNi
import Derived.Test.YtapdekacpecgiaaGreatNj
namespace Go.Proofs.YtapdekacpecgiaaGreat
open Go.RowKit
set_option linter.unusedSimpArgs false
set_option linter.unusedVariables false
set_option linter.unusedSectionVars false
set_option maxRecDepth 20000
set_option maxHeartbeats 1000000
def pwsL (p K:Nat):List Int:=tab K (fun i=>((p^(i+1):Nat):Int))
theorem E8 (p d K:Nat) (hp:2≤p) (hp2:p≤7) (hd:d≤10) (hK3:K≤3) (hK:p^K≤d) (hK2:d<p^(K+1)):AFn Tryz.prog 127 [.int .i64 p,.int .i64 d] (.sl true 3 (intL (pwsL p K))):=by
 refine fO Tryz.func127 Tryz.ntmps127 (by rw [Tryz.results127]) fun C hP hM hC=>?_
 (repeat (first|((with_reducible refine rC rfl fun K hK=>?_);simp only [go_sem,seval,↓reduceIte];refine hK _ _ _ ?_;clear hK K)|refine sT ?_))
 refine AWP.loop (fun x:Nat×Nat=>[(6,⟨0,.val (.int .i64 (p^(x.1+1):Nat))⟩),(5,⟨x.2,.own (.sl true 3 (intL (pwsL p x.1)))⟩),(0,⟨0,.val (.int .i64 p)⟩),(1,⟨0,.val (.int .i64 d)⟩)]) (fun x=>x.1≤K) (fun x=>K-x.1) (0,1) (Nat.zero_le _) (fun x=>rfl) ?_ (fun x hx=>?_)
 ·simp [Sub,lk,pwsL,tab,intL]
 ·obtain ⟨i,v⟩:=x
  simp only at hx ⊢
  have hl:(pwsL p i).length=i:=Ae _ _
  by_cases h:i<K
  ·have hpk:p^(i+1)≤d:=Nat.le_trans (Nat.pow_le_pow_right (by omega) (by omega)) hK
   have hps:p^(i+1+1)=p^(i+1)*p:=Nat.pow_succ ..
   have hm7:p^(i+1)*p≤10*7:=Nat.mul_le_mul (by omega) hp2
   have ww:IntKind.i64.wrap (((p^(i+1):Nat):Int)*(p:Int))=((p^(i+1+1):Nat):Int):=by
    rw [hps,Int.natCast_mul,wid _ (by rw [← Int.natCast_mul];omega) (by rw [← Int.natCast_mul];omega)]
   have es:pwsL p i++[((p^(i+1):Nat):Int)]=pwsL p (i+1):=Gn i (fun i=>((p^(i+1):Nat):Int))
   have zq1:((p^(i+1):Nat):Int)≤(d:Int):=(by omega);have zq2:i+1≤1099511627776:=(by omega);have zq3:(i+1)*8≤140737488355328:=(by omega)
   (repeat (first|((with_reducible refine rC rfl fun K hK=>?_);simp only [go_sem,seval,↓reduceIte,zq1,hl,Bt,es,ww,zq2,zq3];refine hK _ _ _ ?_;clear hK K)|refine sT ?_))
   exact ⟨(i+1,v+1),by simp only;omega,by simp only;omega,by simp [Sub,lk]⟩
  ·obtain rfl:i=K:=by omega
   have zq4:¬ ((p^(i+1):Nat):Int)≤(d:Int):=(by omega)
   (repeat (first|((with_reducible refine rC rfl fun K hK=>?_);simp only [go_sem,seval,↓reduceIte,zq4];refine hK _ _ _ ?_;clear hK K)|refine sT ?_))
   refine rt1 ?_
   rfl
def tfC (p m:Int) (l:List Int) (k c:Int):Int:=
 if tydC p m l 1≠0 then tydC p m l 1 else if isNum m c=false then 2 else if (decide (1≤k)&&decide (k≤(l.length:Int)))=false then 2 else if 10<p.toNat^k.toNat then 2 else 0
theorem most10 {p:Nat} (pr:p=2∨p=3∨p=5∨p=7):∃ K,K≤3∧p^K≤10∧10<p^(K+1):=Ym (by omega) (by omega) (Nat.le_refl 10)
theorem Hq {p K k:Nat} (hp:2≤p) (h1:p^K≤10) (h2:10<p^(K+1)):k≤K↔p^k≤10:=by
 refine ⟨fun h=>Nat.le_trans (Nat.pow_le_pow_right (by omega) h) h1,fun h=>?_⟩
 refine Nat.le_of_not_lt fun h3=>?_
 have:=Nat.pow_le_pow_right (show 0<p by omega) (show K+1≤k from h3)
 omega
theorem Alo {p m:Int} {l:List Int} {k c:Int} (h:tfC p m l k c=0):∃ q j K:Nat,p=(q:Int)∧k=(j:Int)∧(q=2∨q=3∨q=5∨q=7)∧1<m∧m≤10000∧l.length≤3∧(∀ x∈l,0≤x∧x<m)∧0≤c∧c<m∧1≤j∧j≤l.length∧j≤K∧K≤3∧q^K≤10∧10<q^(K+1)∧tydC p m l 1=0:=by
 unfold tfC at h
 split at h
 ·rename_i h0;exact absurd h h0
 ·rename_i h0
  have h0':tydC p m l 1=0:=Classical.byContradiction h0
  obtain ⟨a1,a2,a3,_,a5,a6⟩:=Gm h0'
  obtain ⟨q,rfl,pr⟩:=D1 a3
  split at h
  ·omega
  ·rename_i h1
   split at h
   ·omega
   ·rename_i h2
    split at h
    ·omega
    ·rename_i h3
     have hk:1≤k∧k≤(l.length:Int):=by simpa using h2
     have hc:0≤c∧c<m:=by
      have:isNum m c=true:=by simpa using h1
      simp only [isNum,Bool.and_eq_true,decide_eq_true_eq] at this
      omega
     obtain ⟨j,rfl⟩:=Int.eq_ofNat_of_zero_le (show 0≤k by omega)
     obtain ⟨K,k1,k2,k3⟩:=most10 pr
     rw [Int.toNat_natCast,Int.toNat_natCast] at h3
     exact ⟨q,j,K,rfl,rfl,pr,by omega,a2,a5,a6,hc.1,hc.2,by omega,by omega,(Hq (by omega) k2 k3).2 (by omega),k1,k2,k3,h0'⟩
theorem If (p k K:Nat) (m c:Int) (l:List Int) (h:tydC (p:Int) m l 1=0) (pr:p=2∨p=3∨p=5∨p=7) (hm:1<m) (hm2:m≤10000) (hl:l.length≤3) (hc:0≤c) (hc2:c<m) (hk1:1≤k) (hk2:k≤l.length) (hkK:k≤K) (hK3:K≤3) (hK:p^K≤10) (hK2:10<p^(K+1)):AFn Tryz.prog 40 [.int .i64 p,.int .i64 m,.sl false 2 (intL l),.int .i64 k,.int .i64 c] (.tup [.int .i64 ((0-c)%m),.int .i64 0]):=by
 refine fO Tryz.func40 Tryz.ntmps40 (by rw [Tryz.results40]) fun C hP hM hC=>?_
 have cTy:=Db (p:Int) m l 1 (by omega) (by omega)
 rw [h] at cTy
 have cN:=Dx c m (by omega) (by omega)
 rw [show isNum m c=true by simp [isNum];omega] at cN
 have cI:=Cw (k:Int) 1 (l.length:Int)
 rw [show (decide ((1:Int)≤(k:Int))&&decide ((k:Int)≤(l.length:Int)))=true by simp;omega] at cI
 have cW:=E8 p 10 K (by omega) (by omega) (by omega) hK3 hK hK2
 have hpl:(pwsL p K).length=K:=Ae _ _
 have cMo:=Cr (0-c) m (by omega) (by omega)
 have zq1:((0:Int) != 0)=false:=rfl;have zq2:¬ (K:Int)<(k:Int):=(by omega);have zq3:=wid (0-c) (by omega) (by omega)
 (repeat (first|((with_reducible refine rC rfl fun K hK=>?_);simp only [go_sem,seval,↓reduceIte,zq1,Bf,hpl,zq2,zq3];(first|refine hK _ _ _ ?_|refine ⟨_,cTy,hK _ _ _ ?_⟩|refine ⟨_,cN,hK _ _ _ ?_⟩|refine ⟨_,cI,hK _ _ _ ?_⟩|refine ⟨_,cW,hK _ _ _ ?_⟩|refine ⟨_,cMo,hK _ _ _ ?_⟩);clear hK K)|refine sT ?_))
 refine rt2 ?_
 rfl
theorem Ih (p m k c:Int) (l:List Int) (hl:l.length≤1000000) (h:tfC p m l k c≠0):AFn Tryz.prog 40 [.int .i64 p,.int .i64 m,.sl false 2 (intL l),.int .i64 k,.int .i64 c] (.tup [.int .i64 0,.int .i64 (tfC p m l k c)]):=by
 refine fO Tryz.func40 Tryz.ntmps40 (by rw [Tryz.results40]) fun C hP hM hC=>?_
 have cTy:=Db p m l 1 (by omega) (by omega)
 by_cases h0:tydC p m l 1=0
 ·obtain ⟨a1,a2,a3,_,a5,a6⟩:=Gm h0
  obtain ⟨q,rfl,pr⟩:=D1 a3
  rw [h0] at cTy
  have cN:=Dx c m (by omega) (by omega)
  cases h1:isNum m c with
  | false=>
   rw [h1] at cN
   have zq1:((0:Int) != 0)=false:=rfl
   (repeat (first|((with_reducible refine rC rfl fun K hK=>?_);simp only [go_sem,seval,↓reduceIte,zq1];(first|refine hK _ _ _ ?_|refine ⟨_,cTy,hK _ _ _ ?_⟩|refine ⟨_,cN,hK _ _ _ ?_⟩);clear hK K)|refine sT ?_))
   refine rt2 ?_
   rw [tfC,if_neg (by omega),if_pos h1]
  | true=>
   rw [h1] at cN
   have cI:=Cw k 1 (l.length:Int)
   cases h2:(decide (1≤k)&&decide (k≤(l.length:Int))) with
   | false=>
    rw [h2] at cI
    have zq2:((0:Int) != 0)=false:=rfl
    (repeat (first|((with_reducible refine rC rfl fun K hK=>?_);simp only [go_sem,seval,↓reduceIte,zq2];(first|refine hK _ _ _ ?_|refine ⟨_,cTy,hK _ _ _ ?_⟩|refine ⟨_,cN,hK _ _ _ ?_⟩|refine ⟨_,cI,hK _ _ _ ?_⟩);clear hK K)|refine sT ?_))
    refine rt2 ?_
    rw [tfC,if_neg (by omega),if_neg (by rw [h1];simp),if_pos h2]
   | true=>
    rw [h2] at cI
    have hk:1≤k∧k≤(l.length:Int):=by simpa using h2
    obtain ⟨j,rfl⟩:=Int.eq_ofNat_of_zero_le (show 0≤k by omega)
    obtain ⟨K,k1,k2,k3⟩:=most10 pr
    have hj:¬ j≤K:=fun e=>h (by
     rw [tfC,if_neg (by omega),if_neg (by rw [h1];simp),if_neg (by rw [h2];simp),if_neg (by rw [Int.toNat_natCast,Int.toNat_natCast];have:=(Hq (by omega) k2 k3).1 e;omega)])
    have cW:=E8 q 10 K (by omega) (by omega) (by omega) k1 k2 k3
    have hpl:(pwsL q K).length=K:=Ae _ _
    have zq3:((0:Int) != 0)=false:=rfl;have zq4:(K:Int)<(j:Int):=(by omega)
    (repeat (first|((with_reducible refine rC rfl fun K hK=>?_);simp only [go_sem,seval,↓reduceIte,zq3,Bf,hpl,zq4];(first|refine hK _ _ _ ?_|refine ⟨_,cTy,hK _ _ _ ?_⟩|refine ⟨_,cN,hK _ _ _ ?_⟩|refine ⟨_,cI,hK _ _ _ ?_⟩|refine ⟨_,cW,hK _ _ _ ?_⟩);clear hK K)|refine sT ?_))
    refine rt2 ?_
    rw [tfC,if_neg (by omega),if_neg (by rw [h1];simp),if_neg (by rw [h2];simp),if_pos (by rw [Int.toNat_natCast,Int.toNat_natCast];have:=Hq (k:=j) (show 2≤q by omega) k2 k3;omega)]
 ·have zq5:(tydC p m l 1 != 0)=true:=(by simpa using h0)
  (repeat (first|((with_reducible refine rC rfl fun K hK=>?_);simp only [go_sem,seval,↓reduceIte,zq5];(first|refine hK _ _ _ ?_|refine ⟨_,cTy,hK _ _ _ ?_⟩);clear hK K)|refine sT ?_))
  refine rt2 ?_
  rw [tfC,if_pos h0]
theorem Ako {p k : Nat} (pr : p = 2 ∨ p = 3 ∨ p = 5 ∨ p = 7) (hk : p ^ (k + 1) ≤ 10) {m c : Int} (hm : 1 < m) {l : List Int} (hkl : k < l.length) {u v : Nat} (huv : u + v = p ^ (k + 1)) :
  pc (sadT m (p^(k+1)+1) (tyF p m (l.set k ((at' l k+c)%m)) (p^(k+1))) (sscT m (m-1) (p^(k+1)+1) (tyF p m l (p^(k+1))))) u v=(0-c)*at' (cocL (p^(k+1))) u%m:=by
 rw [sadT,Bc (by omega),sscT,Bc (by omega),tyF,D5 (by omega),tyF,D5 (by omega)]
 have e:=Akz pr hk (v:=at' (ty3 (l.set k ((at' l k+c)%m)))) (v':=at' (ty3 l)) (i:=u) (j:=v) (fun i hi=>by rw [Hw,Hw,Fb hkl,if_neg (by omega)]) (by omega)
 rw [Hw,Hw,Fb hkl,if_pos rfl,tyC,if_pos huv] at e
 generalize tyT p (at' (ty3 (l.set k ((at' l k+c)%m)))) u v=a at *
 generalize tyT p (at' (ty3 l)) u v=b at *
 generalize at' (cocL (p^(k+1))) u=w at *
 generalize at' l k=z at *
 have h1:(a%m+(m-1)*(b%m)%m)%m=(a-b)%m:=by
  rw [Bh (Int.emod_emod _ _) (Int.emod_emod _ _),Bh rfl (Af rfl (Int.emod_emod _ _)),show a+(m-1)*b=a-b+m*b by rw [Int.sub_mul];omega,Int.add_mul_emod_self_left]
 rw [h1,e]
 refine Af ?_ rfl
 rw [Int.sub_emod,Int.emod_emod,← Int.sub_emod]
 congr 1;omega
set_option maxHeartbeats 8000000 in
theorem Ii (p k K:Nat) (m c:Int) (l:List Int) (h:tydC (p:Int) m l 1=0) (pr:p=2∨p=3∨p=5∨p=7) (hm:1<m) (hm2:m≤10000) (hl:l.length≤3) (hl0:∀ x∈l,0≤x∧x<m) (hc:0≤c) (hc2:c<m) (hkl:k<l.length) (hkK:k+1≤K) (hK3:K≤3) (hK:p^K≤10) (hK2:10<p^(K+1)):AFn Tryz.prog 41 [.int .i64 p,.int .i64 m,.sl false 2 (intL l),.int .i64 (k+1:Nat),.int .i64 c] (.tup [.int .i64 ((0-c)%m),.int .i64 0]):=by
 refine fO Tryz.func41 Tryz.ntmps41 (by rw [Tryz.results41]) fun C hP hM hC=>?_
 have hp:2≤p:=by omega
 have hp2:p≤7:=by omega
 have hk10:p^(k+1)≤10:=(Hq hp hK hK2).1 hkK
 have hn1:=G2 hp (k+1)
 have cTy:=Cq (p:Int) m l 1 (by omega) (by omega)
 rw [h] at cTy
 have cI:=Cl ((k+1:Nat):Int) 1 (l.length:Int)
 rw [show (decide ((1:Int)≤((k+1:Nat):Int))&&decide (((k+1:Nat):Int)≤(l.length:Int)))=true by simp;omega] at cI
 have cI2:=Cl c 0 (m-1)
 rw [show (decide ((0:Int)≤c)&&decide (c≤m-1))=true by simp;omega] at cI2
 have cMs:=Gb p 10 K hp hp2 hK hK2 hK3 (by omega)
 have cO:=Eb l (by omega)
 have zq1:((0:Int)==0)=true:=rfl;have zq2:((0:Int) != 0)=false:=rfl;have zq3:=wid (m-1) (by omega) (by omega);have zq4:¬ (K:Int)<((k+1:Nat):Int):=(by omega)
 (repeat (first|((with_reducible refine rC rfl fun K hK=>?_);simp only [go_sem,seval,↓reduceIte,zq1,zq2,Bf,zq3,zq4];(first|refine hK _ _ _ ?_|refine ⟨_,cTy,hK _ _ _ ?_⟩|refine ⟨_,cI,hK _ _ _ ?_⟩|refine ⟨_,cI2,hK _ _ _ ?_⟩|refine ⟨_,cMs,hK _ _ _ ?_⟩|refine ⟨_,cO,hK _ _ _ ?_⟩);clear hK K)|refine sT ?_))
 refine AWP.loop (fun i:Nat=>[(17,⟨0,.val (.int .i64 i)⟩),(15,⟨0,.val (.int .i64 (p^i:Nat))⟩),(16,⟨1,.own (.sl true 2 (intL l))⟩),(0,⟨0,.val (.int .i64 p)⟩),(1,⟨0,.val (.int .i64 m)⟩),(2,⟨0,.val (.sl false 2 (intL l))⟩),(3,⟨0,.val (.int .i64 (k+1:Nat))⟩),(4,⟨0,.val (.int .i64 c)⟩)]) (fun i=>i≤k+1) (fun i=>k+1-i) 0 (Nat.zero_le _) (fun i=>rfl) ?_ (fun i hi=>?_)
 ·simp [Sub,lk]
 ·by_cases hik:i<k+1
  ·have hpi:p^(i+1)≤10:=Nat.le_trans (Nat.pow_le_pow_right (by omega) (by omega)) hk10
   have hps:p^(i+1)=p^i*p:=Nat.pow_succ ..
   have ww:IntKind.i64.wrap (((p^i:Nat):Int)*(p:Int))=((p^(i+1):Nat):Int):=by
    rw [← Int.natCast_mul,← hps,wid _ (by omega) (by omega)]
   have zq5:(i:Int)<((k+1:Nat):Int):=(by omega);have zq6:=wid ((i:Int)+1) (by omega) (by omega)
   (repeat (first|((with_reducible refine rC rfl fun K hK=>?_);simp only [go_sem,seval,↓reduceIte,zq5,ww,zq6];refine hK _ _ _ ?_;clear hK K)|refine sT ?_))
   exact ⟨i+1,by omega,by omega,by simp [Sub,lk]⟩
  ·obtain rfl:i=k+1:=by omega
   have bz:=A4 hl0 (by omega) k
   have bx:=Ag (at' l k+c) m (by omega)
   have hl2:(l.set k ((at' l k+c)%m)).length≤3:=by rw [List.length_set];exact hl
   have n1:1≤p^(k+1):=by omega
   have kk:p^(k+1)<p^(k+1+1):=Nat.pow_lt_pow_right (by omega) (by omega)
   have c1:=Hc p m (p^(k+1)) (k+1) l hp hp2 hm hm2 n1 hk10 (Nat.le_refl _) kk (by omega) hl
   rw [Uq pr hm n1 hk10 kk (by omega)] at c1
   have c2:=Hc p m (p^(k+1)) (k+1) (l.set k ((at' l k+c)%m)) hp hp2 hm hm2 n1 hk10 (Nat.le_refl _) kk (by omega) hl2
   rw [Uq pr hm n1 hk10 kk (by omega)] at c2
   have pF:=Jo (p:=p) (m:=m) (by omega) l (p^(k+1))
   have pG:=Jo (p:=p) (m:=m) (by omega) (l.set k ((at' l k+c)%m)) (p^(k+1))
   have c3:=St m _ _ (p^(k+1)+1) hm hm2 pF pG (by omega)
   have pS:=Yl (m:=m) (by omega) (p^(k+1)+1) (tyF p m (l.set k ((at' l k+c)%m)) (p^(k+1))) (sscT m (m-1) (p^(k+1)+1) (tyF p m l (p^(k+1))))
   have hg:=fun u v (huv:u+v=p^(k+1))=>Ako pr hk10 (c:=c) hm hkl huv
   obtain ⟨z1,z2⟩:=Aeu pr hk10
   have c4:=M9 m (p^(k+1)) p hm hm2 n1 hk10 z1 (by omega)
   have pB:=O5 (m:=m) (by omega) (p^(k+1)) p (p^(k+1)-1)
   have hB:=fun u v (huv:u+v=p^(k+1))=>Adg (m:=m) (by omega) (p^(k+1)) p (p^(k+1)-1) (by omega) u v huv
   rw [z2] at hB
   obtain ⟨y1,y2,y3⟩:=Yn pr hk10 (m:=m) (y:=0-c) hm (l:=tab (p^(k+1)+1) (fun i=>(0-c)*at' (cocL (p^(k+1))) i%m)) (fun i hi=>Bl hi)
   have c5:=Ow m _ _ (cocL (p^(k+1))) (p^(k+1)) ((0-c)%m).toNat hm hm2 hk10 pS pB hB c4 y1 (tab (p^(k+1)+1) (fun i=>(0-c)*at' (cocL (p^(k+1))) i%m)) (fun u v huv=>by rw [hg u v huv,Bl (by omega)]) y2 y3
   have bn0:=Ag (0-c) m (by omega)
   rw [show ((((0-c)%m).toNat:Nat):Int)=(0-c)%m by omega] at c5
   have zq7:¬ ((k+1:Nat):Int)<((k+1:Nat):Int):=(by omega);have zq8:IntKind.i64.wrap (((k+1:Nat):Int)-1)=(k:Int):=(by rw [wid _ (by omega) (by omega)];omega);have zq9:(k:Int)<(l.length:Int):=(by omega);have zq10:=Ao l k hkl;have zq11:=Ai l k (Nat.le_of_lt hkl);have zq12:l.getD k 0=at' l k:=rfl;have zq13:=wid (at' l k+c) (by omega) (by omega);have zq14:=tm (at' l k+c) m (by omega);have zq15:m≠0:=(by omega)
   (repeat (first|((with_reducible refine rC rfl fun K hK=>?_);simp only [go_sem,seval,↓reduceIte,zq7,zq8,zq9,Bf,Int.natCast_nonneg,Int.toNat_natCast,Nat.mul_one,zq10,zq11,zq12,zq13,zq14,zq15,B7];(first|refine hK _ _ _ ?_|refine ⟨_,c1,hK _ _ _ ?_⟩|refine ⟨_,c2,hK _ _ _ ?_⟩|refine ⟨_,c3,hK _ _ _ ?_⟩|refine ⟨_,c5,hK _ _ _ ?_⟩);clear hK K)|refine sT ?_))
   refine rt2 ?_
   rfl
theorem Ig (p m k c:Int) (l:List Int) (hl:l.length≤1000000) (h:tfC p m l k c≠0):AFn Tryz.prog 41 [.int .i64 p,.int .i64 m,.sl false 2 (intL l),.int .i64 k,.int .i64 c] (.tup [.int .i64 0,.int .i64 (tfC p m l k c)]):=by
 refine fO Tryz.func41 Tryz.ntmps41 (by rw [Tryz.results41]) fun C hP hM hC=>?_
 have cTy:=Cq p m l 1 (by omega) (by omega)
 by_cases h0:tydC p m l 1=0
 ·obtain ⟨a1,a2,a3,_,a5,a6⟩:=Gm h0
  obtain ⟨q,rfl,pr⟩:=D1 a3
  rw [h0] at cTy
  have cI2:=Cl c 0 (m-1)
  have en:isNum m c=(decide (0≤c)&&decide (c≤m-1)):=by
   simp only [isNum]
  have cI:=Cl k 1 (l.length:Int)
  cases h1:isNum m c with
  | false=>
   rw [← en,h1] at cI2
   cases h2:(decide (1≤k)&&decide (k≤(l.length:Int))) with
   | false=>
    rw [h2] at cI
    have zq1:((0:Int)==0)=true:=rfl;have zq2:((2:Int) != 0)=true:=rfl;have zq3:=wid (m-1) (by omega) (by omega)
    (repeat (first|((with_reducible refine rC rfl fun K hK=>?_);simp only [go_sem,seval,↓reduceIte,zq1,zq2,Bf,zq3];(first|refine hK _ _ _ ?_|refine ⟨_,cTy,hK _ _ _ ?_⟩|refine ⟨_,cI2,hK _ _ _ ?_⟩|refine ⟨_,cI,hK _ _ _ ?_⟩);clear hK K)|refine sT ?_))
    refine rt2 ?_
    rw [tfC,if_neg (by omega),if_pos h1]
   | true=>
    rw [h2] at cI
    have zq4:((0:Int)==0)=true:=rfl;have zq5:((2:Int) != 0)=true:=rfl;have zq6:=wid (m-1) (by omega) (by omega)
    (repeat (first|((with_reducible refine rC rfl fun K hK=>?_);simp only [go_sem,seval,↓reduceIte,zq4,zq5,Bf,zq6];(first|refine hK _ _ _ ?_|refine ⟨_,cTy,hK _ _ _ ?_⟩|refine ⟨_,cI2,hK _ _ _ ?_⟩|refine ⟨_,cI,hK _ _ _ ?_⟩);clear hK K)|refine sT ?_))
    refine rt2 ?_
    rw [tfC,if_neg (by omega),if_pos h1]
  | true=>
   rw [← en,h1] at cI2
   cases h2:(decide (1≤k)&&decide (k≤(l.length:Int))) with
   | false=>
    rw [h2] at cI
    have zq7:((0:Int)==0)=true:=rfl;have zq8:((2:Int) != 0)=true:=rfl;have zq9:=wid (m-1) (by omega) (by omega)
    (repeat (first|((with_reducible refine rC rfl fun K hK=>?_);simp only [go_sem,seval,↓reduceIte,zq7,zq8,Bf,zq9];(first|refine hK _ _ _ ?_|refine ⟨_,cTy,hK _ _ _ ?_⟩|refine ⟨_,cI2,hK _ _ _ ?_⟩|refine ⟨_,cI,hK _ _ _ ?_⟩);clear hK K)|refine sT ?_))
    refine rt2 ?_
    rw [tfC,if_neg (by omega),if_neg (by rw [h1];simp),if_pos h2]
   | true=>
    rw [h2] at cI
    have hk:1≤k∧k≤(l.length:Int):=by simpa using h2
    obtain ⟨j,rfl⟩:=Int.eq_ofNat_of_zero_le (show 0≤k by omega)
    obtain ⟨K,k1,k2,k3⟩:=most10 pr
    have hj:¬ j≤K:=fun e=>h (by
     rw [tfC,if_neg (by omega),if_neg (by rw [h1];simp),if_neg (by rw [h2];simp),if_neg (by rw [Int.toNat_natCast,Int.toNat_natCast];have:=(Hq (by omega) k2 k3).1 e;omega)])
    have cMs:=Gb q 10 K (by omega) (by omega) k2 k3 k1 (by omega)
    have zq10:((0:Int)==0)=true:=rfl;have zq11:((0:Int) != 0)=false:=rfl;have zq12:=wid (m-1) (by omega) (by omega);have zq13:(K:Int)<(j:Int):=(by omega)
    (repeat (first|((with_reducible refine rC rfl fun K hK=>?_);simp only [go_sem,seval,↓reduceIte,zq10,zq11,Bf,zq12,zq13];(first|refine hK _ _ _ ?_|refine ⟨_,cTy,hK _ _ _ ?_⟩|refine ⟨_,cI2,hK _ _ _ ?_⟩|refine ⟨_,cI,hK _ _ _ ?_⟩|refine ⟨_,cMs,hK _ _ _ ?_⟩);clear hK K)|refine sT ?_))
    refine rt2 ?_
    rw [tfC,if_neg (by omega),if_neg (by rw [h1];simp),if_neg (by rw [h2];simp),if_pos (by rw [Int.toNat_natCast,Int.toNat_natCast];have:=Hq (k:=j) (show 2≤q by omega) k2 k3;omega)]
 ·have zq14:(tydC p m l 1==0)=false:=(by simpa using h0);have zq15:(tydC p m l 1 != 0)=true:=(by simpa using h0)
  (repeat (first|((with_reducible refine rC rfl fun K hK=>?_);simp only [go_sem,seval,↓reduceIte,zq14,zq15];(first|refine hK _ _ _ ?_|refine ⟨_,cTy,hK _ _ _ ?_⟩);clear hK K)|refine sT ?_))
  refine rt2 ?_
  rw [tfC,if_pos h0]
theorem Kb (m:Int) (la lb:List (List Int)) (n i j:Nat) (hm2:m≤10000) (ha:Pl m n la) (hb:Pl m n lb) (hij:i+j<n):AFn Tryz.prog 246 [.int .i64 i,.int .i64 j,.fptr (.agg [.int .i64 m,.sl false 27 (rowsF la)]),.fptr (.agg [.int .i64 m,.sl false 27 (rowsF lb)])] (.int .i64 (pc la i j-pc lb i j)):=by
 refine fO Tryz.func246 Tryz.ntmps246 (by rw [Tryz.results246]) fun C hP hM hC=>?_
 have h1:=ha.num i j
 have h2:=hb.num i j
 have r1:=ha.row i (by omega)
 have r2:=hb.row i (by omega)
 have k1:j<(la.getD i []).length:=by omega
 have k2:j<(lb.getD i []).length:=by omega
 have zq1:=Ad la i (by rw [ha.len];omega);have zq2:=Ad lb i (by rw [hb.len];omega);have zq3:(i:Int)<(n:Int):=(by omega);have zq4:((j:Nat):Int)<((n-i:Nat):Int):=(by omega);have zq5:(la.getD i []).getD j 0=pc la i j:=rfl;have zq6:(lb.getD i []).getD j 0=pc lb i j:=rfl;have zq7:=wid (pc la i j-pc lb i j) (by omega) (by omega)
 (repeat (first|((with_reducible refine rC rfl fun K hK=>?_);simp only [go_sem,seval,↓reduceIte,zq1,zq2,Aa,ha.len,hb.len,Int.toNat_natCast,Int.natCast_nonneg,zq3,Ac _ j k1,Ac _ j k2,r1,r2,zq4,zq5,zq6,zq7];refine hK _ _ _ ?_;clear hK K)|refine sT ?_))
 refine rt1 ?_
 rfl
theorem Lr (m:Int) (la lb:List (List Int)) (n:Nat) (hm:0<m) (hm2:m≤10000) (ha:Pl m n la) (hb:Pl m n lb) (hn:1≤n) (hn2:n≤1000):AFn Tryz.prog 207 [.agg [.int .i64 m,.sl false 27 (rowsF la)],.agg [.int .i64 m,.sl false 27 (rowsF lb)]] (.agg [.int .i64 m,.sl true 27 (rowsO (tab2 n (fun u v=>(pc la u v-pc lb u v)%m)))]):=by
 refine fO Tryz.func207 Tryz.ntmps207 (by rw [Tryz.results207]) fun C hP hM hC=>?_
 have cMp:AFn Tryz.prog 201 [.agg [.int .i64 m,.sl false 27 (rowsF la)],.fn 246 [.fptr (.agg [.int .i64 m,.sl false 27 (rowsF la)]),.fptr (.agg [.int .i64 m,.sl false 27 (rowsF lb)])]] (.agg [.int .i64 m,.sl true 27 (rowsO (tab2 n (fun u v=>(pc la u v-pc lb u v)%m)))]):=D6 m la n (fun i j=>pc la i j-pc lb i j) 246 [.fptr (.agg [.int .i64 m,.sl false 27 (rowsF la)]),.fptr (.agg [.int .i64 m,.sl false 27 (rowsF lb)])] (by decide) (by rfl) (by simp [T.pureL,T.pure,Ca]) (fun _=>rfl) hm (by omega) ha.len hn hn2 (fun i j hij=>Kb m la lb n i j hm2 ha hb hij)
 (repeat (first|((with_reducible refine rC rfl fun K hK=>?_);simp only [go_sem,seval,↓reduceIte];(first|refine hK _ _ _ ?_|refine ⟨_,cMp,hK _ _ _ ?_⟩);clear hK K)|refine sT ?_))
 refine rt1 ?_
 rfl
theorem Of (m:Int) (ll:List (List Int)) (n:Nat) (hl:Pl m (n+1) ll) (hn:n≤100):AFn Tryz.prog 208 [.agg [.int .i64 m,.sl false 27 (rowsF ll)]] (.sl true 2 (intL (tab (n+1) (fun i=>pc ll i (n-i))))):=by
 refine fO Tryz.func208 Tryz.ntmps208 (by rw [Tryz.results208]) fun C hP hM hC=>?_
 have hD:=A3 m ll (by rw [hl.len];omega)
 rw [hl.len,show ((n+1:Nat):Int)-1=(n:Int) by omega] at hD
 have zq1:IntKind.i64.wrap ((n:Int)+1)=((n+1:Nat):Int):=(by rw [wid _ (by omega) (by omega)];omega)
 (repeat (first|((with_reducible refine rC rfl fun K hK=>?_);simp only [go_sem,seval,↓reduceIte,zq1];(first|refine hK _ _ _ ?_|refine ⟨_,hD,hK _ _ _ ?_⟩);clear hK K)|refine sT ?_))
 refine AWP.loop (fun x:Nat×Nat=>[(11,⟨0,.val (.int .i64 x.1)⟩),(10,⟨0,.val (.int .i64 (n+1:Nat))⟩),(3,⟨x.2,.own (.sl true 2 (intL (tab x.1 (fun i=>pc ll i (n-i)))))⟩),(4,⟨0,.val (.int .i64 n)⟩),(1,⟨1,.own (.box 26 (.agg [.int .i64 m,.sl false 27 (rowsF ll)]))⟩)]) (fun x=>x.1≤n+1) (fun x=>n+1-x.1) (0,1) (Nat.zero_le _) (fun x=>rfl) ?_ (fun x hx=>?_)
 ·simp [Sub,lk,tab,intL]
 ·obtain ⟨i,v⟩:=x
  simp only at hx ⊢
  have hll:(tab i (fun i=>pc ll i (n-i))).length=i:=Ae _ _
  by_cases h:i<n+1
  ·have r1:=hl.row i h
   have es:tab i (fun i=>pc ll i (n-i))++[pc ll i (n-i)]=tab (i+1) (fun i=>pc ll i (n-i)):=Gn i (fun i=>pc ll i (n-i))
   have zq2:(i:Int)<((n+1:Nat):Int):=(by omega);have zq3:IntKind.i64.wrap ((n:Int)-(i:Int))=((n-i:Nat):Int):=(by rw [wid _ (by omega) (by omega)];omega);have zq4:=Ad ll i (by rw [hl.len];omega);have zq5:=Ac (ll.getD i []) (n-i) (by omega);have zq6:((n-i:Nat):Int)<((n+1-i:Nat):Int):=(by omega);have zq7:(ll.getD i []).getD (n-i) 0=pc ll i (n-i):=rfl;have zq8:i+1≤1099511627776:=(by omega);have zq9:(i+1)*8≤140737488355328:=(by omega);have zq10:=wid ((i:Int)+1) (by omega) (by omega)
   (repeat (first|((with_reducible refine rC rfl fun K hK=>?_);simp only [go_sem,seval,↓reduceIte,zq2,zq3,zq4,Aa,hl.len,Int.toNat_natCast,Int.natCast_nonneg,zq5,r1,zq6,zq7,hll,Bt,es,zq8,zq9,zq10];refine hK _ _ _ ?_;clear hK K)|refine sT ?_))
   exact ⟨(i+1,v+1),by simp only;omega,by simp only;omega,by simp [Sub,lk]⟩
  ·obtain rfl:i=n+1:=by omega
   have zq11:¬ ((n+1:Nat):Int)<((n+1:Nat):Int):=(by omega)
   (repeat (first|((with_reducible refine rC rfl fun K hK=>?_);simp only [go_sem,seval,↓reduceIte,zq11];refine hK _ _ _ ?_;clear hK K)|refine sT ?_))
   refine rt1 ?_
   rfl
end Go.Proofs.YtapdekacpecgiaaGreat

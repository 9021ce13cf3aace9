import Derived.Test.YtapdekacpecgiaaGreatNh
import Derived.Test.YtapdekacpecgiaaGreatBk
namespace Go.Proofs.YtapdekacpecgiaaGreat
open Go.RowKit
set_option linter.unusedSimpArgs false
set_option linter.unusedVariables false
set_option linter.unusedSectionVars false
set_option maxRecDepth 20000
set_option maxHeartbeats 1000000
theorem Ym {p d:Nat} (hp:2≤p) (h1:1≤d) (hd:d≤10):∃ K,K≤3∧p^K≤d∧d<p^(K+1):=by
 have h4:16≤p^4:=Nat.pow_le_pow_left hp 4
 by_cases a3:p^3≤d
 ·exact ⟨3,by omega,a3,by show d<p^4;omega⟩
 ·by_cases a2:p^2≤d
  ·exact ⟨2,by omega,a2,by show d<p^3;omega⟩
  ·by_cases a1:p^1≤d
   ·exact ⟨1,by omega,a1,by show d<p^2;omega⟩
   ·exact ⟨0,by omega,by rw [Nat.pow_zero];exact h1,by show d<p^1;omega⟩
theorem Jo {p:Nat} {m:Int} (hm:0<m) (l:List Int) (d:Nat):Pl m (d+1) (tyF p m l d):=Acv hm _ _
theorem Y4 {l:List Int} {m:Int} (hm:0<m) (h:∀ x∈l,0≤x∧x<m):∀ x∈ty3 l,0≤x∧x<m:=fun x hx=>by
 rw [ty3,List.mem_append] at hx
 rcases hx with hx|hx
 ·exact h x hx
 ·have:=List.eq_of_mem_replicate hx;omega
theorem wideB {p d:Nat} {m:Int} (hp2:p≤7) (hp:2≤p) (hm:1<m) (hm2:m≤10000) (hd:d≤10) (i:Nat) (hi:i≤d-1):0<((p^i:Nat):Int)∧((p^i:Nat):Int)≤40353607∧m≤m*((p^i:Nat):Int)∧m*((p^i:Nat):Int)≤403536070000:=by
 have h1:p^i≤7^i:=Nat.pow_le_pow_left hp2 i
 have h2:7^i≤7^9:=Nat.pow_le_pow_right (by omega) (by omega)
 have h3:0<p^i:=Nat.pow_pos (by omega)
 have h4:m*1≤m*((p^i:Nat):Int):=Int.mul_le_mul_of_nonneg_left (by omega) (by omega)
 have h5:m*((p^i:Nat):Int)≤10000*40353607:=Int.mul_le_mul hm2 (by omega) (by omega) (by omega)
 refine ⟨by omega,by omega,by omega,by omega⟩
set_option maxHeartbeats 16000000 in
theorem E5 (p:Nat) (m:Int) (d K:Nat) (l:List Int) (pr:p=2∨p=3∨p=5∨p=7) (hm:1<m) (hm2:m≤10000) (h1:1≤d) (hd:d≤10) (hK:p^K≤d) (hK2:d<p^(K+1)) (hK3:K≤3) (hl:l.length≤3) (hl0:∀ x∈l,0≤x∧x<m):AFn Tryz.prog 113 [.int .i64 p,.int .i64 m,.int .i64 d,.sl false 2 (intL l)] (.agg [.int .i64 m,.sl true 27 (rowsO (tyF p m l d))]):=by
 refine fO Tryz.func113 Tryz.ntmps113 (by rw [Tryz.results113]) fun C hP hM hC=>?_
 have hp:2≤p:=by omega
 have hp2:p≤7:=by omega
 have wd:IntKind.i64.wrap ((d:Int)-1)=((d-1:Nat):Int):=by rw [wid _ (by omega) (by omega)];omega
 (repeat (first|((with_reducible refine rC rfl fun K hK=>?_);simp only [go_sem,seval,↓reduceIte,wd];refine hK _ _ _ ?_;clear hK K)|refine sT ?_))
 refine AWP.loop (fun i:Nat=>[(18,⟨0,.val (.int .i64 i)⟩),(17,⟨0,.val (.int .i64 (d-1:Nat))⟩),(9,⟨0,.val (.int .i64 (m*((p^i:Nat):Int)))⟩),(4,⟨1,.own (.box 2 (.int .i64 p))⟩),(8,⟨1,.own (.box 26 (.agg [.int .i64 0,.nil]))⟩),(1,⟨0,.val (.int .i64 m)⟩),(2,⟨0,.val (.int .i64 d)⟩),(3,⟨0,.val (.sl false 2 (intL l))⟩)]) (fun i=>i≤d-1) (fun i=>d-1-i) 0 (Nat.zero_le _) (fun i=>rfl) ?_ (fun i hi=>?_)
 ·simp [Sub,lk]
 ·have bW:=wideB hp2 hp hm hm2 hd i hi
  by_cases h:i<d-1
  ·have bW2:=wideB hp2 hp hm hm2 hd (i+1) (by omega)
   have w3:IntKind.i64.wrap (m*((p^i:Nat):Int)*(p:Int))=m*((p^(i+1):Nat):Int):=by
    have e:m*((p^i:Nat):Int)*(p:Int)=m*((p^(i+1):Nat):Int):=by rw [Nat.pow_succ,Int.natCast_mul];ac_rfl
    rw [e,wid _ (by omega) (by omega)]
   have zq1:(i:Int)<((d-1:Nat):Int):=(by omega);have zq2:=wid ((i:Int)+1) (by omega) (by omega)
   (repeat (first|((with_reducible refine rC rfl fun K hK=>?_);simp only [go_sem,seval,↓reduceIte,zq1,w3,zq2];refine hK _ _ _ ?_;clear hK K)|refine sT ?_))
   exact ⟨i+1,by omega,by omega,by simp [Sub,lk]⟩
  ·obtain rfl:i=d-1:=by omega
   have eW:m*((p^(d-1):Nat):Int)=m*(p:Int)^(d-1):=by rw [Int.natCast_pow]
   rw [eW] at bW ⊢
   obtain ⟨b1,b2,b3,b4⟩:=bW
   have cPd:=K8 l hl
   have n3:=Y4 (m:=m) (by omega) hl0
   have cN:=E9 p (m*(p:Int)^(d-1)) (ty3 l) hp hp2 (by omega) (by omega) (by rw [E0 hl];omega) (fun x hx=>by have:=n3 x hx;omega)
   rw [E0 hl] at cN
   have hA:=Gr (p:=p) (m:=m*(p:Int)^(d-1)) (by omega) (ty3 l) 3
   have cZ:=El (m*(p:Int)^(d-1)) (d:Int) (d+1) (by omega) (by omega)
   have hall:=Um pr hm h1 hd hK hK2 hK3 l (S:=pc (suT (m*(p:Int)^(d-1)) (stS p d (lgF p (m*(p:Int)^(d-1)) l) (K+1)) d)) (Aef _ _)
   have hlg:∀ k,at' (nuL p (m*(p:Int)^(d-1)) (ty3 l) 3) k*(((p:Int)%(m*(p:Int)^(d-1)))^(p^k-1-k)%(m*(p:Int)^(d-1)))%(m*(p:Int)^(d-1))=lgF p (m*(p:Int)^(d-1)) l k:=fun k=>rfl
   generalize hWW:m*(p:Int)^(d-1)=w at *
   generalize hAA:nuL p w (ty3 l) 3=A at *
   have hLn:=Qe (p:=p) (d:=d) (f:=lgF p w l) (w:=w) (by omega) (fun k=>by rw [← hlg];exact Ag _ w (by omega))
   have hLl:=Dm p d (lgF p w l)
   have zq3:¬ ((d-1:Nat):Int)<((d-1:Nat):Int):=(by omega)
   (repeat (first|((with_reducible refine rC rfl fun K hK=>?_);simp only [go_sem,seval,↓reduceIte,zq3];(first|refine hK _ _ _ ?_|refine ⟨_,cPd,hK _ _ _ ?_⟩|refine ⟨_,cN,hK _ _ _ ?_⟩|refine ⟨_,cZ,hK _ _ _ ?_⟩);clear hK K)|refine sT ?_))
   refine AWP.loop (fun x:Nat×Nat=>[(12,⟨0,.val (.int .i64 x.1)⟩),(13,⟨0,.val (.int .i64 (p^x.1:Nat))⟩),(11,⟨x.2,.own (.box 29 (.agg [.int .i64 w,.sl true 2 (intL (stS p d (lgF p w l) x.1))]))⟩),(10,⟨1,.own (.sl true 2 (intL A))⟩),(9,⟨0,.val (.int .i64 w)⟩),(4,⟨1,.own (.box 2 (.int .i64 p))⟩),(8,⟨1,.own (.box 26 (.agg [.int .i64 0,.nil]))⟩),(1,⟨0,.val (.int .i64 m)⟩),(2,⟨0,.val (.int .i64 d)⟩)]) (fun x=>x.1≤K+1) (fun x=>K+1-x.1) (0,2) (Nat.zero_le _) (fun x=>rfl) ?_ (fun x hx=>?_)
   ·simp [Sub,lk,stS]
   ·obtain ⟨k,v⟩:=x
    simp only at hx ⊢
    by_cases hk:k<K+1
    ·have hpk:p^k≤d:=Nat.le_trans (Nat.pow_le_pow_right (by omega) (by omega)) hK
     have hpk1:=G2 hp k
     have hps:p^(k+1)=p^k*p:=Nat.pow_succ ..
     have hm7:p^k*p≤10*7:=Nat.mul_le_mul (by omega) hp2
     have ww:IntKind.i64.wrap (((p^k:Nat):Int)*(p:Int))=((p^(k+1):Nat):Int):=by
      rw [hps,Int.natCast_mul,wid _ (by rw [← Int.natCast_mul];omega) (by rw [← Int.natCast_mul];omega)]
     have hlen:p^k<(stS p d (lgF p w l) k).length:=by rw [hLl];omega
     have hAk:=A4 hA.2 (by omega) k
     have hpw:=Ag (p:Int) w (by omega)
     have c4:=E2 w ((p:Int)%w) (p^k-1-k) (by omega) (by omega) hpw.1 hpw.2 (by omega)
     have b5:=Ag (((p:Int)%w)^(p^k-1-k)) w (by omega)
     have c5:=Cv w (at' A k) (((p:Int)%w)^(p^k-1-k)%w) (by omega) (by omega) hAk.1 hAk.2 b5.1 b5.2
     rw [hlg] at c5
     have zq4:(k:Int)<((3+1:Nat):Int):=(by omega);have zq5:(k:Int)<4:=(by omega);have zq6:((p^k:Nat):Int)≤(d:Int):=(by omega);have zq7:IntKind.i64.wrap (((p^k:Nat):Int)-1)=((p^k-1:Nat):Int):=(by rw [wid _ (by omega) (by omega)];omega);have zq8:IntKind.i64.wrap (((p^k-1:Nat):Int)-(k:Int))=((p^k-1-k:Nat):Int):=(by rw [wid _ (by omega) (by omega)];omega);have zq9:=Ao A k (by rw [hA.1];omega);have zq10:=Ai A k (by rw [hA.1];omega);have zq11:A.getD k 0=at' A k:=rfl;have zq12:=tm (p:Int) w (by omega);have zq13:w≠0:=(by omega);have zq14:((p^k:Nat):Int)<((d+1:Nat):Int):=(by omega);have zq15:(stS p d (lgF p w l) k).set (p^k) (lgF p w l k)=stS p d (lgF p w l) (k+1):=rfl;have zq16:=wid ((k:Int)+1) (by omega) (by omega)
     (repeat (first|((with_reducible refine rC rfl fun K hK=>?_);simp only [go_sem,seval,↓reduceIte,hA.1,zq4,zq5,zq6,zq7,zq8,Int.natCast_nonneg,Int.toNat_natCast,Nat.mul_one,zq9,zq10,zq11,zq12,zq13,hLl,zq14,Ao _ _ hlen,Ai _ _ (Nat.le_of_lt hlen),B7,zq15,ww,zq16];(first|refine hK _ _ _ ?_|refine ⟨_,c4,hK _ _ _ ?_⟩|refine ⟨_,c5,hK _ _ _ ?_⟩);clear hK K)|refine sT ?_))
     exact ⟨(k+1,v),by simp only;omega,by simp only;omega,by simp [Sub,lk]⟩
    ·obtain rfl:k=K+1:=by omega
     have cL:=Qs w (stS p d (lgF p w l) (K+1)) d (by omega) (by omega) (hLn _) (hLl _) h1 (by omega)
     have pG:=Re (m:=w) (by omega) (stS p d (lgF p w l) (K+1)) d (pc (suT w (stS p d (lgF p w l) (K+1)) d))
     generalize hGG:lawT w (stS p d (lgF p w l) (K+1)) d (pc (suT w (stS p d (lgF p w l) (K+1)) d))=G at *
     have cE:=Cf m d (by omega)
     have cMp:AFn Tryz.prog 201 [.agg [.int .i64 m,.sl false 27 (rowsF (tab2 (d+1) (fun _ _=>0)))],.fn 202 [.fptr (.int .i64 p),.fptr (.agg [.int .i64 w,.sl false 27 (rowsF G)])]] (.agg [.int .i64 m,.sl true 27 (rowsO (tab2 (d+1) (fun u v=>pc G u v/(p:Int)^(u+v-1)%m)))]):=D6 m (tab2 (d+1) (fun _ _=>0)) (d+1) (fun i j=>pc G i j/(p:Int)^(i+j-1)) 202 [.fptr (.int .i64 p),.fptr (.agg [.int .i64 w,.sl false 27 (rowsF G)])] (by decide) (by rfl) (by simp [T.pureL,T.pure,Ca]) (fun _=>rfl) (by omega) (by omega) (Aq _ _) (by omega) (by omega) (fun i j hij=>Lh p w G d i j hp hp2 hd pG (by omega) hij)
     rw [hall.1] at cMp
     by_cases h4:K=3
     ·subst h4
      have zq17:¬ (((3+1:Nat):Nat):Int)<((3+1:Nat):Int):=(by omega)
      (repeat (first|((with_reducible refine rC rfl fun K hK=>?_);simp only [go_sem,seval,↓reduceIte,hA.1,zq17];(first|refine hK _ _ _ ?_|refine ⟨_,cL,hK _ _ _ ?_⟩|refine ⟨_,cE,hK _ _ _ ?_⟩|refine ⟨_,cMp,hK _ _ _ ?_⟩);clear hK K)|refine sT ?_))
      refine rt1 ?_
      rfl
     ·have zq18:((K+1:Nat):Int)<((3+1:Nat):Int):=(by omega);have zq19:((K+1:Nat):Int)<4:=(by omega);have zq20:¬ ((p^(K+1):Nat):Int)≤(d:Int):=(by omega)
      (repeat (first|((with_reducible refine rC rfl fun K hK=>?_);simp only [go_sem,seval,↓reduceIte,hA.1,zq18,zq19,zq20];(first|refine hK _ _ _ ?_|refine ⟨_,cL,hK _ _ _ ?_⟩|refine ⟨_,cE,hK _ _ _ ?_⟩|refine ⟨_,cMp,hK _ _ _ ?_⟩);clear hK K)|refine sT ?_))
      refine rt1 ?_
      rfl
def tlC (p m d:Int) (l:List Int):Int:=if tydC p m l 0≠0 then tydC p m l 0 else if (decide (1≤d)&&decide (d≤10))=true then 0 else 2
theorem Vn {p m d:Int} {l:List Int} (h:tlC p m d l=0):∃ q D K:Nat,p=(q:Int)∧d=(D:Int)∧(q=2∨q=3∨q=5∨q=7)∧1≤D∧D≤10∧K≤3∧q^K≤D∧D<q^(K+1)∧1<m∧m≤10000∧l.length≤3∧∀ x∈l,0≤x∧x<m:=by
 unfold tlC at h
 split at h
 ·rename_i h0;exact absurd h h0
 ·rename_i h0
  split at h
  ·rename_i h1
   obtain ⟨a1,a2,a3,_,a5,a6⟩:=Gm (Classical.byContradiction h0)
   obtain ⟨q,hq,pr⟩:=D1 a3
   have hd:1≤d∧d≤10:=by simpa using h1
   obtain ⟨D,rfl⟩:=Int.eq_ofNat_of_zero_le (show 0≤d by omega)
   obtain ⟨K,k1,k2,k3⟩:=Ym (p:=q) (d:=D) (by omega) (by omega) (by omega)
   exact ⟨q,D,K,hq,rfl,pr,by omega,by omega,k1,k2,k3,by omega,a2,a5,a6⟩
  ·omega
theorem Kk (p D K:Nat) (m:Int) (l:List Int) (h:tlC (p:Int) m (D:Int) l=0) (pr:p=2∨p=3∨p=5∨p=7) (hm:1<m) (hm2:m≤10000) (h1:1≤D) (hd:D≤10) (hK:p^K≤D) (hK2:D<p^(K+1)) (hK3:K≤3) (hl:l.length≤3) (hl0:∀ x∈l,0≤x∧x<m):AFn Tryz.prog 33 [.int .i64 p,.int .i64 m,.int .i64 D,.sl false 2 (intL l)] (.tup [.agg [.int .i64 m,.sl true 27 (rowsO (tyF p m l D))],.int .i64 0]):=by
 refine fO Tryz.func33 Tryz.ntmps33 (by rw [Tryz.results33]) fun C hP hM hC=>?_
 have hc:tydC (p:Int) m l 0=0:=by
  unfold tlC at h
  split at h
  ·rename_i h0;exact absurd h h0
  ·rename_i h0;exact Classical.byContradiction h0
 have cTy:=Db (p:Int) m l 0 (by omega) (by omega)
 rw [hc] at cTy
 have cI:=Cw (D:Int) 1 10
 have cLw:=E5 p m D K l pr hm hm2 h1 hd hK hK2 hK3 hl hl0
 rw [show (decide ((1:Int)≤(D:Int))&&decide ((D:Int)≤10))=true by simp;omega] at cI
 have zq1:((0:Int) != 0)=false:=rfl
 (repeat (first|((with_reducible refine rC rfl fun K hK=>?_);simp only [go_sem,seval,↓reduceIte,zq1];(first|refine hK _ _ _ ?_|refine ⟨_,cTy,hK _ _ _ ?_⟩|refine ⟨_,cI,hK _ _ _ ?_⟩|refine ⟨_,cLw,hK _ _ _ ?_⟩);clear hK K)|refine sT ?_))
 refine rt2 ?_
 rfl
theorem Kr (p m d:Int) (l:List Int) (hl:l.length≤1000000) (h:tlC p m d l≠0):AFn Tryz.prog 33 [.int .i64 p,.int .i64 m,.int .i64 d,.sl false 2 (intL l)] (.tup [.agg [.int .i64 0,.nil],.int .i64 (tlC p m d l)]):=by
 refine fO Tryz.func33 Tryz.ntmps33 (by rw [Tryz.results33]) fun C hP hM hC=>?_
 have cTy:=Db p m l 0 (by omega) (by omega)
 by_cases hc:tydC p m l 0=0
 ·have cI:=Cw d 1 10
  cases hi:(decide (1≤d)&&decide (d≤10)) with
  | true=>exact absurd (by rw [tlC,if_neg (by omega),if_pos hi]) h
  | false=>
   rw [hi] at cI
   rw [hc] at cTy
   have zq1:((0:Int) != 0)=false:=rfl
   (repeat (first|((with_reducible refine rC rfl fun K hK=>?_);simp only [go_sem,seval,↓reduceIte,zq1];(first|refine hK _ _ _ ?_|refine ⟨_,cTy,hK _ _ _ ?_⟩|refine ⟨_,cI,hK _ _ _ ?_⟩);clear hK K)|refine sT ?_))
   refine rt2 ?_
   rw [tlC,if_neg (by omega),if_neg (by rw [hi];simp)]
 ·have zq2:(tydC p m l 0 != 0)=true:=(by simpa using hc)
  (repeat (first|((with_reducible refine rC rfl fun K hK=>?_);simp only [go_sem,seval,↓reduceIte,zq2];(first|refine hK _ _ _ ?_|refine ⟨_,cTy,hK _ _ _ ?_⟩);clear hK K)|refine sT ?_))
  refine rt2 ?_
  rw [tlC,if_pos hc]
theorem Jz (p D K:Nat) (m:Int) (l:List Int) (h:tlC (p:Int) m (D:Int) l=0) (pr:p=2∨p=3∨p=5∨p=7) (hm:1<m) (hm2:m≤10000) (h1:1≤D) (hd:D≤10) (hK:p^K≤D) (hK2:D<p^(K+1)) (hK3:K≤3) (hl:l.length≤3) (hl0:∀ x∈l,0≤x∧x<m):AFn Tryz.prog 34 [.int .i64 p,.int .i64 m,.int .i64 D,.sl false 2 (intL l)] (.tup [.agg [.int .i64 m,.sl true 27 (rowsO (tyF p m l D))],.int .i64 0]):=by
 refine fO Tryz.func34 Tryz.ntmps34 (by rw [Tryz.results34]) fun C hP hM hC=>?_
 have hc:tydC (p:Int) m l 0=0:=by
  unfold tlC at h
  split at h
  ·rename_i h0;exact absurd h h0
  ·rename_i h0;exact Classical.byContradiction h0
 have cTy:=Cq (p:Int) m l 0 (by omega) (by omega)
 rw [hc] at cTy
 have cI:=Cl (D:Int) 1 10
 have cLw:=Hc p m D K l (by omega) (by omega) hm hm2 h1 hd hK hK2 hK3 hl
 rw [Uq pr hm h1 hd hK2 hK3] at cLw
 have cMk:=No m (tyF p m l D)
 rw [show (decide ((1:Int)≤(D:Int))&&decide ((D:Int)≤10))=true by simp;omega] at cI
 have zq1:((0:Int) != 0)=false:=rfl;have zq2:((0:Int)==0)=true:=rfl
 (repeat (first|((with_reducible refine rC rfl fun K hK=>?_);simp only [go_sem,seval,↓reduceIte,zq1,zq2];(first|refine hK _ _ _ ?_|refine ⟨_,cTy,hK _ _ _ ?_⟩|refine ⟨_,cI,hK _ _ _ ?_⟩|refine ⟨_,cLw,hK _ _ _ ?_⟩|refine ⟨_,cMk,hK _ _ _ ?_⟩);clear hK K)|refine sT ?_))
 refine rt2 ?_
 rfl
theorem Ko (p m d:Int) (l:List Int) (hl:l.length≤1000000) (h:tlC p m d l≠0):AFn Tryz.prog 34 [.int .i64 p,.int .i64 m,.int .i64 d,.sl false 2 (intL l)] (.tup [.agg [.int .i64 0,.nil],.int .i64 (tlC p m d l)]):=by
 refine fO Tryz.func34 Tryz.ntmps34 (by rw [Tryz.results34]) fun C hP hM hC=>?_
 have cTy:=Cq p m l 0 (by omega) (by omega)
 by_cases hc:tydC p m l 0=0
 ·have cI:=Cl d 1 10
  cases hi:(decide (1≤d)&&decide (d≤10)) with
  | true=>exact absurd (by rw [tlC,if_neg (by omega),if_pos hi]) h
  | false=>
   rw [hi] at cI
   rw [hc] at cTy
   have zq1:((0:Int)==0)=true:=rfl;have zq2:((2:Int) != 0)=true:=rfl
   (repeat (first|((with_reducible refine rC rfl fun K hK=>?_);simp only [go_sem,seval,↓reduceIte,zq1,zq2];(first|refine hK _ _ _ ?_|refine ⟨_,cTy,hK _ _ _ ?_⟩|refine ⟨_,cI,hK _ _ _ ?_⟩);clear hK K)|refine sT ?_))
   refine rt2 ?_
   rw [tlC,if_neg (by omega),if_neg (by rw [hi];simp)]
 ·have zq3:(tydC p m l 0==0)=false:=(by simpa using hc);have zq4:(tydC p m l 0 != 0)=true:=(by simpa using hc)
  (repeat (first|((with_reducible refine rC rfl fun K hK=>?_);simp only [go_sem,seval,↓reduceIte,zq3,zq4];(first|refine hK _ _ _ ?_|refine ⟨_,cTy,hK _ _ _ ?_⟩);clear hK K)|refine sT ?_))
  refine rt2 ?_
  rw [tlC,if_pos hc]
theorem G5 (p:Nat) (m:Int) (l:List Int) (h:tydC (p:Int) m l 1=0) (hp:2≤p) (hp2:p≤7) (hm:1<m) (hm2:m≤10000) (hl:l.length≤3) (hl0:∀ x∈l,0≤x∧x<m):AFn Tryz.prog 43 [.int .i64 p,.int .i64 m,.sl false 2 (intL l)] (.tup [.sl true 2 (intL (nuL p m l l.length)),.int .i64 0]):=by
 refine fO Tryz.func43 Tryz.ntmps43 (by rw [Tryz.results43]) fun C hP hM hC=>?_
 have cTy:=Db (p:Int) m l 1 (by omega) (by omega)
 rw [h] at cTy
 have cN:=E9 p m l hp hp2 (by omega) (by omega) hl hl0
 have zq1:((0:Int) != 0)=false:=rfl
 (repeat (first|((with_reducible refine rC rfl fun K hK=>?_);simp only [go_sem,seval,↓reduceIte,zq1];(first|refine hK _ _ _ ?_|refine ⟨_,cTy,hK _ _ _ ?_⟩|refine ⟨_,cN,hK _ _ _ ?_⟩);clear hK K)|refine sT ?_))
 refine rt2 ?_
 rfl
theorem Gz (p m:Int) (l:List Int) (hl:l.length≤1000000) (h:tydC p m l 1≠0):AFn Tryz.prog 43 [.int .i64 p,.int .i64 m,.sl false 2 (intL l)] (.tup [.nil,.int .i64 (tydC p m l 1)]):=by
 refine fO Tryz.func43 Tryz.ntmps43 (by rw [Tryz.results43]) fun C hP hM hC=>?_
 have cTy:=Db p m l 1 (by omega) (by omega)
 have zq1:(tydC p m l 1 != 0)=true:=(by simpa using h)
 (repeat (first|((with_reducible refine rC rfl fun K hK=>?_);simp only [go_sem,seval,↓reduceIte,zq1];(first|refine hK _ _ _ ?_|refine ⟨_,cTy,hK _ _ _ ?_⟩);clear hK K)|refine sT ?_))
 refine rt2 ?_
 rfl
theorem G9 (p:Nat) (m:Int) (l:List Int) (h:tydC (p:Int) m l 1=0) (hp:2≤p) (hp2:p≤7) (hm:1<m) (hm2:m≤10000) (hl:l.length≤3) (hl0:∀ x∈l,0≤x∧x<m):AFn Tryz.prog 44 [.int .i64 p,.int .i64 m,.sl false 2 (intL l)] (.tup [.sl true 2 (intL (nuL p m l l.length)),.int .i64 0]):=by
 refine fO Tryz.func44 Tryz.ntmps44 (by rw [Tryz.results44]) fun C hP hM hC=>?_
 have cTy:=Cq (p:Int) m l 1 (by omega) (by omega)
 rw [h] at cTy
 have cN:=Ed p m l hp hp2 (by omega) (by omega) hl
 have zq1:((0:Int) != 0)=false:=rfl
 (repeat (first|((with_reducible refine rC rfl fun K hK=>?_);simp only [go_sem,seval,↓reduceIte,zq1];(first|refine hK _ _ _ ?_|refine ⟨_,cTy,hK _ _ _ ?_⟩|refine ⟨_,cN,hK _ _ _ ?_⟩);clear hK K)|refine sT ?_))
 refine rt2 ?_
 rfl
theorem G0 (p m:Int) (l:List Int) (hl:l.length≤1000000) (h:tydC p m l 1≠0):AFn Tryz.prog 44 [.int .i64 p,.int .i64 m,.sl false 2 (intL l)] (.tup [.nil,.int .i64 (tydC p m l 1)]):=by
 refine fO Tryz.func44 Tryz.ntmps44 (by rw [Tryz.results44]) fun C hP hM hC=>?_
 have cTy:=Cq p m l 1 (by omega) (by omega)
 have zq1:(tydC p m l 1 != 0)=true:=(by simpa using h)
 (repeat (first|((with_reducible refine rC rfl fun K hK=>?_);simp only [go_sem,seval,↓reduceIte,zq1];(first|refine hK _ _ _ ?_|refine ⟨_,cTy,hK _ _ _ ?_⟩);clear hK K)|refine sT ?_))
 refine rt2 ?_
 rfl
def llF (p:Nat) (m:Int) (l:List Int) (k:Nat):Int:=at' (nuL p m (ty3 l) 3) k*(invL m (p:Int)^k%m)%m
def tgC (p m d:Int) (l:List Int):Int:=if tlC p m d l≠0 then tlC p m d l else if m%p=0 then 5 else 0
set_option maxHeartbeats 4000000 in
theorem Di (p D K:Nat) (m:Int) (l:List Int) (h:tlC (p:Int) m (D:Int) l=0) (pr:p=2∨p=3∨p=5∨p=7) (hm:1<m) (hm2:m≤10000) (h1:1≤D) (hd:D≤10) (hK:p^K≤D) (hK2:D<p^(K+1)) (hK3:K≤3) (hl:l.length≤3) (hl0:∀ x∈l,0≤x∧x<m) (hu:m%(p:Int)≠0):AFn Tryz.prog 37 [.int .i64 p,.int .i64 m,.int .i64 D,.sl false 2 (intL l)] (.tup [.agg [.int .i64 m,.sl true 2 (intL (stS p D (llF p m l) (K+1)))],.int .i64 0]):=by
 refine fO Tryz.func37 Tryz.ntmps37 (by rw [Tryz.results37]) fun C hP hM hC=>?_
 have hp:2≤p:=by omega
 have hp2:p≤7:=by omega
 have hc:tydC (p:Int) m l 0=0:=by
  unfold tlC at h
  split at h
  ·rename_i h0;exact absurd h h0
  ·rename_i h0;exact Classical.byContradiction h0
 have cTy:=Db (p:Int) m l 0 (by omega) (by omega)
 rw [hc] at cTy
 have cI:=Cw (D:Int) 1 10
 rw [show (decide ((1:Int)≤(D:Int))&&decide ((D:Int)≤10))=true by simp;omega] at cI
 have cZ:=El m (D:Int) (D+1) (by omega) (by omega)
 have cV:=Qf m (p:Int) (by omega) (by omega)
 have cPd:=K8 l hl
 have cN:=E9 p m (ty3 l) hp hp2 (by omega) (by omega) (by rw [E0 hl];omega) (Y4 (by omega) hl0)
 rw [E0 hl] at cN
 have hA:=Gr (p:=p) (m:=m) (by omega) (ty3 l) 3
 have hz:=E1 m (p:Int) (by omega)
 have hlg:∀ k,at' (nuL p m (ty3 l) 3) k*(invL m (p:Int)^k%m)%m=llF p m l k:=fun k=>rfl
 generalize hAA:nuL p m (ty3 l) 3=A at *
 generalize hZZ:invL m (p:Int)=z at *
 have hLl:=Dm p D (llF p m l)
 have zq1:((0:Int) != 0)=false:=rfl;have zq2:=tm m (p:Int) (by omega);have zq3:(p:Int)≠0:=(by omega);have zq4:(m%(p:Int)==0)=false:=(by simpa using hu)
 (repeat (first|((with_reducible refine rC rfl fun K hK=>?_);simp only [go_sem,seval,↓reduceIte,zq1,zq2,zq3,zq4];(first|refine hK _ _ _ ?_|refine ⟨_,cTy,hK _ _ _ ?_⟩|refine ⟨_,cI,hK _ _ _ ?_⟩|refine ⟨_,cZ,hK _ _ _ ?_⟩|refine ⟨_,cV,hK _ _ _ ?_⟩|refine ⟨_,cPd,hK _ _ _ ?_⟩|refine ⟨_,cN,hK _ _ _ ?_⟩);clear hK K)|refine sT ?_))
 refine AWP.loop (fun i:Nat=>[(49,⟨0,.val (.int .i64 i)⟩),(48,⟨0,.val (.int .i64 (3+1:Nat))⟩),(47,⟨1,.own (.sl true 2 (intL A))⟩),(13,⟨0,.val (.int .i64 (z^i%m))⟩),(14,⟨0,.val (.int .i64 (p^i:Nat))⟩),(11,⟨2,.own (.box 29 (.agg [.int .i64 m,.sl true 2 (intL (stS p D (llF p m l) i))]))⟩),(12,⟨0,.val (.int .i64 z)⟩),(0,⟨0,.val (.int .i64 p)⟩),(1,⟨0,.val (.int .i64 m)⟩),(2,⟨0,.val (.int .i64 D)⟩),(8,⟨1,.own (.box 29 (.agg [.int .i64 0,.nil]))⟩)]) (fun i=>i≤K+1) (fun i=>K+1-i) 0 (Nat.zero_le _) (fun i=>rfl) ?_ (fun i hi=>?_)
 ·have e1:(1:Int)%m=1:=Int.emod_eq_of_lt (by omega) hm
  simp [Sub,lk,stS,e1,hA.1]
 ·have bA:=A4 hA.2 (by omega) i
  by_cases h:i<K+1
  ·have hpk:p^i≤D:=Nat.le_trans (Nat.pow_le_pow_right (by omega) (by omega)) hK
   have hps:p^(i+1)=p^i*p:=Nat.pow_succ ..
   have hm7:p^i*p≤10*7:=Nat.mul_le_mul (by omega) hp2
   have ww:IntKind.i64.wrap (((p^i:Nat):Int)*(p:Int))=((p^(i+1):Nat):Int):=by
    rw [hps,Int.natCast_mul,wid _ (by rw [← Int.natCast_mul];omega) (by rw [← Int.natCast_mul];omega)]
   have bz:=Ag (z^i) m (by omega)
   have m1:=F1 bA.1 bA.2 bz.1 bz.2 hm2
   have m2:=F1 bz.1 bz.2 hz.1 hz.2 hm2
   have e2:z^i%m*z%m=z^(i+1)%m:=by rw [Fx,Int.pow_succ]
   have hlen:p^i<(stS p D (llF p m l) i).length:=by rw [hLl];omega
   have zq5:(i:Int)<((3+1:Nat):Int):=(by omega);have zq6:(i:Int)<4:=(by omega);have zq7:=Ao A i (by rw [hA.1];omega);have zq8:=Ai A i (by rw [hA.1];omega);have zq9:A.getD i 0=at' A i:=rfl;have zq10:¬ (D:Int)<((p^i:Nat):Int):=(by omega);have zq11:=wid (at' A i*(z^i%m)) (by omega) (by omega);have zq12:=tm (at' A i*(z^i%m)) m (by omega);have zq13:m≠0:=(by omega);have zq14:((p^i:Nat):Int)<((D+1:Nat):Int):=(by omega);have zq15:(stS p D (llF p m l) i).set (p^i) (llF p m l i)=stS p D (llF p m l) (i+1):=rfl;have zq16:=wid (z^i%m*z) (by omega) (by omega);have zq17:=tm (z^i%m*z) m (by omega);have zq18:=wid ((i:Int)+1) (by omega) (by omega)
   (repeat (first|((with_reducible refine rC rfl fun K hK=>?_);simp only [go_sem,seval,↓reduceIte,zq5,zq6,hA.1,Int.natCast_nonneg,Int.toNat_natCast,Nat.mul_one,zq7,zq8,zq9,zq10,zq11,zq12,hlg,zq13,hLl,zq14,Ao _ _ hlen,Ai _ _ (Nat.le_of_lt hlen),B7,zq15,zq16,zq17,e2,ww,zq18];refine hK _ _ _ ?_;clear hK K)|refine sT ?_))
   exact ⟨i+1,by omega,by omega,by simp [Sub,lk]⟩
  ·obtain rfl:i=K+1:=by omega
   by_cases h4:K=3
   ·subst h4
    have zq19:¬ (((3+1:Nat):Nat):Int)<((3+1:Nat):Int):=(by omega)
    (repeat (first|((with_reducible refine rC rfl fun K hK=>?_);simp only [go_sem,seval,↓reduceIte,zq19];refine hK _ _ _ ?_;clear hK K)|refine sT ?_))
    refine rt2 ?_
    rfl
   ·have zq20:((K+1:Nat):Int)<((3+1:Nat):Int):=(by omega);have zq21:((K+1:Nat):Int)<4:=(by omega);have zq22:=Ao A (K+1) (by rw [hA.1];omega);have zq23:=Ai A (K+1) (by rw [hA.1];omega);have zq24:A.getD (K+1) 0=at' A (K+1):=rfl;have zq25:(D:Int)<((p^(K+1):Nat):Int):=(by omega)
    (repeat (first|((with_reducible refine rC rfl fun K hK=>?_);simp only [go_sem,seval,↓reduceIte,zq20,zq21,hA.1,Int.natCast_nonneg,Int.toNat_natCast,Nat.mul_one,zq22,zq23,zq24,zq25];refine hK _ _ _ ?_;clear hK K)|refine sT ?_))
    refine rt2 ?_
    rfl
theorem Vi {p m d:Int} {l:List Int} (h:tgC p m d l=0):tlC p m d l=0∧m%p≠0:=by
 unfold tgC at h
 split at h
 ·rename_i h0;exact absurd h h0
 ·rename_i h0
  split at h
  ·omega
  ·rename_i h1;exact ⟨Classical.byContradiction h0,h1⟩
theorem Dg (p m d:Int) (l:List Int) (hl:l.length≤1000000) (h:tgC p m d l≠0):AFn Tryz.prog 37 [.int .i64 p,.int .i64 m,.int .i64 d,.sl false 2 (intL l)] (.tup [.agg [.int .i64 0,.nil],.int .i64 (tgC p m d l)]):=by
 refine fO Tryz.func37 Tryz.ntmps37 (by rw [Tryz.results37]) fun C hP hM hC=>?_
 have cTy:=Db p m l 0 (by omega) (by omega)
 by_cases hc:tydC p m l 0=0
 ·have cI:=Cw d 1 10
  cases hi:(decide (1≤d)&&decide (d≤10)) with
  | true=>
   have ht:tlC p m d l=0:=by rw [tlC,if_neg (by omega),if_pos hi]
   obtain ⟨a1,a2,a3,_,a5,a6⟩:=Gm hc
   obtain ⟨q,rfl,pr⟩:=D1 a3
   have hu:m%(q:Int)=0:=Classical.byContradiction fun e=>h (by rw [tgC,if_neg (by omega),if_neg e])
   rw [hi] at cI
   rw [hc] at cTy
   have zq1:((0:Int) != 0)=false:=rfl;have zq2:=tm m (q:Int) (by omega);have zq3:(q:Int)≠0:=(by omega);have zq4:((0:Int)==0)=true:=rfl
   (repeat (first|((with_reducible refine rC rfl fun K hK=>?_);simp only [go_sem,seval,↓reduceIte,zq1,zq2,zq3,hu,zq4];(first|refine hK _ _ _ ?_|refine ⟨_,cTy,hK _ _ _ ?_⟩|refine ⟨_,cI,hK _ _ _ ?_⟩);clear hK K)|refine sT ?_))
   refine rt2 ?_
   rw [tgC,if_neg (by omega),if_pos hu]
  | false=>
   rw [hi] at cI
   rw [hc] at cTy
   have ht:tlC p m d l=2:=by rw [tlC,if_neg (by omega),if_neg (by rw [hi];simp)]
   have zq5:((0:Int) != 0)=false:=rfl
   (repeat (first|((with_reducible refine rC rfl fun K hK=>?_);simp only [go_sem,seval,↓reduceIte,zq5];(first|refine hK _ _ _ ?_|refine ⟨_,cTy,hK _ _ _ ?_⟩|refine ⟨_,cI,hK _ _ _ ?_⟩);clear hK K)|refine sT ?_))
   refine rt2 ?_
   rw [tgC,if_pos (by omega),ht]
 ·have ht:tlC p m d l=tydC p m l 0:=by rw [tlC,if_pos hc]
  have zq6:(tydC p m l 0 != 0)=true:=(by simpa using hc)
  (repeat (first|((with_reducible refine rC rfl fun K hK=>?_);simp only [go_sem,seval,↓reduceIte,zq6];(first|refine hK _ _ _ ?_|refine ⟨_,cTy,hK _ _ _ ?_⟩);clear hK K)|refine sT ?_))
  refine rt2 ?_
  rw [tgC,if_pos (by omega),ht]
theorem Us {p:Nat} (pr:p=2∨p=3∨p=5∨p=7) {M:Nat} (hM:1<M):unB (M:Int) (((p%M:Nat):Nat):Int)=decide ((M:Int)%(p:Int)≠0):=by
 have e1:Nat.gcd (p%M) M=Nat.gcd (M%p) p:=by rw [← Nat.gcd_rec,Nat.gcd_comm,Nat.gcd_rec]
 have e2:(Nat.gcd (M%p) p==1)=decide (M%p≠0):=by
  have hr:M%p<p:=Nat.mod_lt _ (by omega)
  generalize M%p=r at *
  rcases pr with rfl|rfl|rfl|rfl
  ·have:r=0∨r=1:=by omega
   rcases this with rfl|rfl <;> decide
  ·have:r=0∨r=1∨r=2:=by omega
   rcases this with rfl|rfl|rfl <;> decide
  ·have:r=0∨r=1∨r=2∨r=3∨r=4:=by omega
   rcases this with rfl|rfl|rfl|rfl|rfl <;> decide
  ·have:r=0∨r=1∨r=2∨r=3∨r=4∨r=5∨r=6:=by omega
   rcases this with rfl|rfl|rfl|rfl|rfl|rfl|rfl <;> decide
 rw [unB,Int.toNat_natCast,Int.toNat_natCast,e1,e2]
 rw [Bool.eq_iff_iff]
 simp only [decide_eq_true_eq]
 omega
set_option maxHeartbeats 4000000 in
theorem Ei (p D K:Nat) (m:Int) (l:List Int) (h:tlC (p:Int) m (D:Int) l=0) (pr:p=2∨p=3∨p=5∨p=7) (hm:1<m) (hm2:m≤10000) (h1:1≤D) (hd:D≤10) (hK:p^K≤D) (hK2:D<p^(K+1)) (hK3:K≤3) (hl:l.length≤3) (hl0:∀ x∈l,0≤x∧x<m) (hu:m%(p:Int)≠0):AFn Tryz.prog 46 [.int .i64 p,.int .i64 m,.int .i64 D,.sl false 2 (intL l)] (.tup [.agg [.int .i64 m,.sl true 2 (intL (stS p D (llF p m l) (K+1)))],.int .i64 0]):=by
 refine fO Tryz.func46 Tryz.ntmps46 (by rw [Tryz.results46]) fun C hP hM hC=>?_
 have hp:2≤p:=by omega
 have hp2:p≤7:=by omega
 have hc:tydC (p:Int) m l 0=0:=by
  unfold tlC at h
  split at h
  ·rename_i h0;exact absurd h h0
  ·rename_i h0;exact Classical.byContradiction h0
 have cTy:=Cq (p:Int) m l 0 (by omega) (by omega)
 rw [hc] at cTy
 have cI:=Cl (D:Int) 1 10
 rw [show (decide ((1:Int)≤(D:Int))&&decide ((D:Int)≤10))=true by simp;omega] at cI
 obtain ⟨M,rfl⟩:=Int.eq_ofNat_of_zero_le (show 0≤m by omega)
 have cU:=H7 M (p%M) (by omega) (by have:=Nat.mod_lt p (show M>0 by omega);omega)
 rw [Us pr (by omega),decide_eq_true hu] at cU
 have epm:(p:Int).tmod (M:Int)=((p%M:Nat):Int):=by rw [tm _ _ (by omega)];rfl
 have cV:=Sr (M:Int) ((p%M:Nat):Int) (by omega) (by omega)
 rw [show invL (M:Int) ((p%M:Nat):Int)=invL (M:Int) (p:Int) by rw [invL,invL,Int.natCast_emod,Int.emod_emod]] at cV
 have cPd:=In l hl
 have cN:=Ed p (M:Int) (ty3 l) hp hp2 (by omega) (by omega) (by rw [E0 hl];omega)
 rw [E0 hl] at cN
 have hA:=Gr (p:=p) (m:=(M:Int)) (by omega) (ty3 l) 3
 have hz:=E1 (M:Int) (p:Int) (by omega)
 have hlg:∀ k,at' (nuL p (M:Int) (ty3 l) 3) k*(invL (M:Int) (p:Int)^k%(M:Int))%(M:Int)=llF p (M:Int) l k:=fun k=>rfl
 have cMk:=Q9 (M:Int) (stS p D (llF p (M:Int) l) (K+1))
 generalize hAA:nuL p (M:Int) (ty3 l) 3=A at *
 generalize hZZ:invL (M:Int) (p:Int)=z at *
 have hLl:=Dm p D (llF p (M:Int) l)
 have zq1:((0:Int) != 0)=false:=rfl;have zq2:(M:Int)≠0:=(by omega);have zq3:=wid ((D:Int)+1) (by omega) (by omega);have zq4:(0:Int)≤(D:Int)+1:=(by omega);have zq5:((D:Int)+1).toNat=D+1:=(by omega);have zq6:(D:Int)+1≤1099511627776:=(by omega)
 (repeat (first|((with_reducible refine rC rfl fun K hK=>?_);simp only [go_sem,seval,↓reduceIte,zq1,epm,zq2,zq3,zq4,zq5,zq6,C6,Fk];(first|refine hK _ _ _ ?_|refine ⟨_,cTy,hK _ _ _ ?_⟩|refine ⟨_,cI,hK _ _ _ ?_⟩|refine ⟨_,cU,hK _ _ _ ?_⟩|refine ⟨_,cPd,hK _ _ _ ?_⟩|refine ⟨_,cN,hK _ _ _ ?_⟩);clear hK K)|refine sT ?_))
 refine AWP.loop (fun i:Nat=>[(14,⟨0,.val (.int .i64 i)⟩),(13,⟨0,.val (.int .i64 (p^i:Nat))⟩),(11,⟨1,.own (.sl true 2 (intL (stS p D (llF p (M:Int) l) i)))⟩),(12,⟨1,.own (.sl true 2 (intL A))⟩),(0,⟨0,.val (.int .i64 p)⟩),(1,⟨0,.val (.int .i64 (M:Int))⟩),(2,⟨0,.val (.int .i64 D)⟩),(8,⟨1,.own (.box 29 (.agg [.int .i64 0,.nil]))⟩)]) (fun i=>i≤K+1) (fun i=>K+1-i) 0 (Nat.zero_le _) (fun i=>rfl) ?_ (fun i hi=>?_)
 ·simp [Sub,lk,stS]
 ·have bA:=A4 hA.2 (by omega) i
  by_cases h:i<K+1
  ·have hpk:p^i≤D:=Nat.le_trans (Nat.pow_le_pow_right (by omega) (by omega)) hK
   have hps:p^(i+1)=p^i*p:=Nat.pow_succ ..
   have hm7:p^i*p≤10*7:=Nat.mul_le_mul (by omega) hp2
   have ww:IntKind.i64.wrap (((p^i:Nat):Int)*(p:Int))=((p^(i+1):Nat):Int):=by
    rw [hps,Int.natCast_mul,wid _ (by rw [← Int.natCast_mul];omega) (by rw [← Int.natCast_mul];omega)]
   have bz:=Ag (z^i) (M:Int) (by omega)
   have m1:=F1 bA.1 bA.2 bz.1 bz.2 hm2
   have cPw:=Ep (M:Int) z i (by omega) (by omega) (by omega)
   have hlen:p^i<(stS p D (llF p (M:Int) l) i).length:=by rw [hLl];omega
   have zq7:(i:Int)<((3+1:Nat):Int):=(by omega);have zq8:(i:Int)<4:=(by omega);have zq9:((p^i:Nat):Int)≤(D:Int):=(by omega);have zq10:=Ao A i (by rw [hA.1];omega);have zq11:=Ai A i (by rw [hA.1];omega);have zq12:A.getD i 0=at' A i:=rfl;have zq13:=wid (at' A i*(z^i%(M:Int))) (by omega) (by omega);have zq14:=tm (at' A i*(z^i%(M:Int))) (M:Int) (by omega);have zq15:(M:Int)≠0:=(by omega);have zq16:((p^i:Nat):Int)<((D+1:Nat):Int):=(by omega);have zq17:(stS p D (llF p (M:Int) l) i).set (p^i) (llF p (M:Int) l i)=stS p D (llF p (M:Int) l) (i+1):=rfl;have zq18:=wid ((i:Int)+1) (by omega) (by omega)
   (repeat (first|((with_reducible refine rC rfl fun K hK=>?_);simp only [go_sem,seval,↓reduceIte,hA.1,zq7,zq8,zq9,Int.natCast_nonneg,Int.toNat_natCast,Nat.mul_one,zq10,zq11,zq12,epm,zq13,zq14,hlg,zq15,hLl,zq16,Ao _ _ hlen,Ai _ _ (Nat.le_of_lt hlen),B7,zq17,ww,zq18];(first|refine hK _ _ _ ?_|refine ⟨_,cV,hK _ _ _ ?_⟩|refine ⟨_,cPw,hK _ _ _ ?_⟩);clear hK K)|refine sT ?_))
   exact ⟨i+1,by omega,by omega,by simp [Sub,lk]⟩
  ·obtain rfl:i=K+1:=by omega
   by_cases h4:K=3
   ·subst h4
    have zq19:¬ (((3+1:Nat):Nat):Int)<((3+1:Nat):Int):=(by omega)
    (repeat (first|((with_reducible refine rC rfl fun K hK=>?_);simp only [go_sem,seval,↓reduceIte,hA.1,zq19];(first|refine hK _ _ _ ?_|refine ⟨_,cMk,hK _ _ _ ?_⟩);clear hK K)|refine sT ?_))
    refine rt2 ?_
    rfl
   ·have zq20:((K+1:Nat):Int)<((3+1:Nat):Int):=(by omega);have zq21:((K+1:Nat):Int)<4:=(by omega);have zq22:¬ ((p^(K+1):Nat):Int)≤(D:Int):=(by omega)
    (repeat (first|((with_reducible refine rC rfl fun K hK=>?_);simp only [go_sem,seval,↓reduceIte,hA.1,zq20,zq21,zq22];(first|refine hK _ _ _ ?_|refine ⟨_,cMk,hK _ _ _ ?_⟩);clear hK K)|refine sT ?_))
    refine rt2 ?_
    rfl
theorem Eh (p m d:Int) (l:List Int) (hl:l.length≤1000000) (h:tgC p m d l≠0):AFn Tryz.prog 46 [.int .i64 p,.int .i64 m,.int .i64 d,.sl false 2 (intL l)] (.tup [.agg [.int .i64 0,.nil],.int .i64 (tgC p m d l)]):=by
 refine fO Tryz.func46 Tryz.ntmps46 (by rw [Tryz.results46]) fun C hP hM hC=>?_
 have cTy:=Cq p m l 0 (by omega) (by omega)
 by_cases hc:tydC p m l 0=0
 ·have cI:=Cl d 1 10
  cases hi:(decide (1≤d)&&decide (d≤10)) with
  | true=>
   have ht:tlC p m d l=0:=by rw [tlC,if_neg (by omega),if_pos hi]
   obtain ⟨a1,a2,a3,_,a5,a6⟩:=Gm hc
   obtain ⟨q,rfl,pr⟩:=D1 a3
   have hu:m%(q:Int)=0:=Classical.byContradiction fun e=>h (by rw [tgC,if_neg (by omega),if_neg e])
   rw [hi] at cI
   rw [hc] at cTy
   obtain ⟨M,rfl⟩:=Int.eq_ofNat_of_zero_le (show 0≤m by omega)
   have cU:=H7 M (q%M) (by omega) (by have:=Nat.mod_lt q (show M>0 by omega);omega)
   rw [Us pr (by omega),decide_eq_false (by rw [hu];simp)] at cU
   have epm:(q:Int).tmod (M:Int)=((q%M:Nat):Int):=by rw [tm _ _ (by omega)];rfl
   have zq1:((0:Int) != 0)=false:=rfl;have zq2:(M:Int)≠0:=(by omega)
   (repeat (first|((with_reducible refine rC rfl fun K hK=>?_);simp only [go_sem,seval,↓reduceIte,zq1,epm,zq2];(first|refine hK _ _ _ ?_|refine ⟨_,cTy,hK _ _ _ ?_⟩|refine ⟨_,cI,hK _ _ _ ?_⟩|refine ⟨_,cU,hK _ _ _ ?_⟩);clear hK K)|refine sT ?_))
   refine rt2 ?_
   rw [tgC,if_neg (by omega),if_pos hu]
  | false=>
   rw [hi] at cI
   rw [hc] at cTy
   have ht:tlC p m d l=2:=by rw [tlC,if_neg (by omega),if_neg (by rw [hi];simp)]
   have zq3:((0:Int) != 0)=false:=rfl
   (repeat (first|((with_reducible refine rC rfl fun K hK=>?_);simp only [go_sem,seval,↓reduceIte,zq3];(first|refine hK _ _ _ ?_|refine ⟨_,cTy,hK _ _ _ ?_⟩|refine ⟨_,cI,hK _ _ _ ?_⟩);clear hK K)|refine sT ?_))
   refine rt2 ?_
   rw [tgC,if_pos (by omega),ht]
 ·have ht:tlC p m d l=tydC p m l 0:=by rw [tlC,if_pos hc]
  have zq4:(tydC p m l 0 != 0)=true:=(by simpa using hc)
  (repeat (first|((with_reducible refine rC rfl fun K hK=>?_);simp only [go_sem,seval,↓reduceIte,zq4];(first|refine hK _ _ _ ?_|refine ⟨_,cTy,hK _ _ _ ?_⟩);clear hK K)|refine sT ?_))
  refine rt2 ?_
  rw [tgC,if_pos (by omega),ht]
end Go.Proofs.YtapdekacpecgiaaGreat

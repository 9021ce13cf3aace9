import Derived.Test.YtapdekacpecgiaaGreatNl
import Derived.Test.YtapdekacpecgiaaGreatNm
import Derived.Test.YtapdekacpecgiaaGreatSv
import Derived.Test.YtapdekacpecgiaaGreatSyc
import Derived.Test.YtapdekacpecgiaaGreatBk
namespace Go.Proofs.YtapdekacpecgiaaGreat
open Go.RowKit
set_option linter.unusedSimpArgs false
set_option linter.unusedVariables false
set_option linter.unusedSectionVars false
set_option maxRecDepth 20000
set_option maxHeartbeats 1000000
theorem Py  : AFn Tryz.prog 79 [.nil,.nil] (.bool true):=by
 refine fO Tryz.func79 Tryz.ntmps79 (by rw [Tryz.results79]) fun C hP hM hC=>?_
 (repeat (first|((with_reducible refine rC rfl fun K hK=>?_);simp only [go_sem,seval,↓reduceIte,bne_self_eq_false];refine hK _ _ _ ?_;clear hK K)|refine sT ?_))
 refine AWP.loop (fun i:Nat=>[(5,⟨0,.val (.int .i64 0)⟩),(0,⟨0,.val (.nil)⟩),(1,⟨0,.val (.nil)⟩)]) (fun i=>True) (fun i=>0) 0 trivial (fun i=>rfl) ?_ (fun i hi=>?_)
 ·simp [Sub,lk]
 ·have zq1:¬ (0:Int)<0:=(by omega)
  (repeat (first|((with_reducible refine rC rfl fun K hK=>?_);simp only [go_sem,seval,↓reduceIte,zq1];refine hK _ _ _ ?_;clear hK K)|refine sT ?_))
  refine rt1 ?_
  rfl
theorem On (m:Int):AFn Tryz.prog 13 [.agg [.int .i64 m,.nil],.agg [.int .i64 m,.nil]] (.bool true):=by
 refine fO Tryz.func13 Tryz.ntmps13 (by rw [Tryz.results13]) fun C hP hM hC=>?_
 have zq1:=Py
 (repeat (first|((with_reducible refine rC rfl fun K hK=>?_);simp only [go_sem,seval,↓reduceIte,beq_self_eq_true];(first|refine hK _ _ _ ?_|refine ⟨_,zq1,hK _ _ _ ?_⟩);clear hK K)|refine sT ?_))
 refine rt1 ?_
 rfl
theorem Ij (m:Int) (la:List Int) (hs:isSer m la=true):AFn Tryz.prog 15 [.agg [.int .i64 m,.sl false 2 (intL la)],.int .i64 0] (.tup [.agg [.int .i64 m,.sl true 27 (rowsO (tab2 la.length (axX2 la la.length)))],.int .i64 0]):=by
 refine fO Tryz.func15 Tryz.ntmps15 (by rw [Tryz.results15]) fun C hP hM hC=>?_
 have f:=Mu hs
 have hA:=F5 m la (by omega)
 rw [hs] at hA
 have hS1:=K9 0
 rw [show (decide ((0:Int)≤0)&&decide ((0:Int)≤1))=true from rfl] at hS1
 have zq1:=Hx m la la.length rfl (by omega) (by omega)
 (repeat (first|((with_reducible refine rC rfl fun K hK=>?_);simp only [go_sem,seval,↓reduceIte];(first|refine hK _ _ _ ?_|refine ⟨_,hA,hK _ _ _ ?_⟩|refine ⟨_,hS1,hK _ _ _ ?_⟩|refine ⟨_,zq1,hK _ _ _ ?_⟩);clear hK K)|refine sT ?_))
 refine rt2 ?_
 rfl
theorem Ie (m:Int) (la:List Int) (hs:isSer m la=true):AFn Tryz.prog 15 [.agg [.int .i64 m,.sl false 2 (intL la)],.int .i64 1] (.tup [.agg [.int .i64 m,.sl true 27 (rowsO (tab2 la.length (axY2 la la.length)))],.int .i64 0]):=by
 refine fO Tryz.func15 Tryz.ntmps15 (by rw [Tryz.results15]) fun C hP hM hC=>?_
 have f:=Mu hs
 have hA:=F5 m la (by omega)
 rw [hs] at hA
 have hS1:=K9 1
 rw [show (decide ((0:Int)≤1)&&decide ((1:Int)≤1))=true from rfl] at hS1
 have zq1:=Ib m la la.length rfl (by omega) (by omega)
 (repeat (first|((with_reducible refine rC rfl fun K hK=>?_);simp only [go_sem,seval,↓reduceIte];(first|refine hK _ _ _ ?_|refine ⟨_,hA,hK _ _ _ ?_⟩|refine ⟨_,hS1,hK _ _ _ ?_⟩|refine ⟨_,zq1,hK _ _ _ ?_⟩);clear hK K)|refine sT ?_))
 refine rt2 ?_
 rfl
theorem Shp.five5 {t:List (List Int)} (h:Shp t):t.length≤1000∧∀ i,(t.getD i []).length≤1000:=⟨h.1,fun i=>by
 by_cases hi:i<t.length
 ·rw [List.getD_eq_getElem?_getD,List.getElem?_eq_getElem hi,Option.getD_some]
  exact (h.2 _ (List.getElem_mem hi)).1
 ·rw [List.getD_eq_getElem?_getD,List.getElem?_eq_none (by omega),Option.getD_none];simp⟩
theorem Ajp {p d K:Nat} {m:Int} (pr:p=2∨p=3∨p=5∨p=7) (hm:1<m) (hm2:m≤10000) (h1:1≤d) (hd:d≤10) (hK:p^K≤d) (hK2:d<p^(K+1)) (hK3:K≤3) (l:List Int):isPl m (tyF p m l d)=true∧lawB m (tyF p m l d)=true:=by
 have h:=(Um pr hm h1 hd hK hK2 hK3 l (Aef _ _)).2
 have pF:=Jo (p:=p) (m:=m) (by omega) l d
 have hp:=Rj hm hm2 pF (by omega) (by omega)
 exact ⟨hp,Om hp (by rw [pF.len];exact h)⟩
theorem Ag8 {p d:Nat} {m:Int} (pr:p=2∨p=3∨p=5∨p=7) (l:List Int):pc (tyF p m l d) 0 0=0:=by
 rw [tyF,D5 (by omega),((Pn pr (at' (ty3 l))).ax 0 (by omega)).1];rfl
theorem Am3 {p d K:Nat} (pr:p=2∨p=3∨p=5∨p=7) (hK:p^K≤d) (hK3:K≤3) {m:Int} (hm:1<m) (l:List Int):TyL p m d K (fun k=>tyA p (at' (ty3 l) 0) (at' (ty3 l) 1) (at' (ty3 l) 2) k*invL m (p:Int)^k) (stS p d (llF p m l) (K+1)):=
 Afm (by omega) hK (by omega) (fun k=>Ag _ m (by omega)) fun k hk=>by
  rw [llF,Int.emod_emod]
  exact Af (Uh (by omega) k (by omega)) (Int.emod_emod _ _)
theorem Ak0 {p:Nat} (pr:p=2∨p=3∨p=5∨p=7) {m:Int} (hm:1<m) (hu:m%(p:Int)≠0):invL m (p:Int)*(p:Int)%m=1%m:=by
 obtain ⟨M,rfl⟩:=Int.eq_ofNat_of_zero_le (show 0≤m by omega)
 have hb:=Us pr (M:=M) (by omega)
 rw [decide_eq_true hu] at hb
 have hg:=Aiy hb
 have hlt:=Nat.mod_lt p (show M>0 by omega)
 have h:=invC (m:=(M:Int)) (a:=((p%M:Nat):Int)) hm ⟨by omega,by omega⟩ hg
 have e1:invL (M:Int) ((p%M:Nat):Int)=invL (M:Int) (p:Int):=by rw [invL,invL,Int.natCast_emod,Int.emod_emod]
 rw [e1,Int.natCast_emod,Dl] at h
 exact h
set_option maxHeartbeats 32000000 in
theorem Kh (a:Option Addr) (c:Nat) (l:List Int) (hlen:l.length≤9223372036854775807) (hx:∀ x∈l,0≤x∧x≤255):AFn Tryz.prog 4 [.str (.src a c l)] (.bool true):=by
 refine fO Tryz.func4 Tryz.ntmps4 (by rw [Tryz.results4]) fun C hP hM hC=>?_
 by_cases hbig:(4096:Int)<(l.length:Int)
 ·have hb:=Ps a c l
  rw [decide_eq_true hbig] at hb
  (repeat (first|((with_reducible refine rC rfl fun K hK=>?_);simp only [go_sem,seval,↓reduceIte,hbig];(first|refine hK _ _ _ ?_|refine ⟨_,hb,hK _ _ _ ?_⟩);clear hK K)|refine sT ?_))
  refine rt1 ?_
  rfl
 have hb:=Ps a c l
 rw [decide_eq_false hbig] at hb
 have hB:Byt l:=⟨by omega,hx⟩
 obtain ⟨p,m,d,la,k,y,hla,hD1,hD2,hD3,hD4⟩:=Abz (a:=a) (c:=c) hB
 refine AWP.tailR 7 [(0,⟨0,.val (.str (.src a c l))⟩)] ?_ (fun R tail=>?_)
 ·simp only [dropSeq]
  clear hb hbig hlen hx
  refine AWP.tailR 4 [(0,⟨0,.val (.str (.src a c l))⟩)] ?_ (fun R tail=>?_)
  ·simp only [dropSeq]
   clear hD1 hD4
   by_cases hn:tydC p m la 1=0
   ·obtain ⟨b1,b2,b3,b4,b5,b6⟩:=Gm hn
    obtain ⟨q,rfl,pr⟩:=D1 b3
    have cN1:=G5 q m la hn (by omega) (by omega) (by omega) b2 b5 b6
    have cN2:=G9 q m la hn (by omega) (by omega) (by omega) b2 b5 b6
    have hnl:=(Gr (p:=q) (m:=m) (by omega) la la.length).1
    have cL:=Fy (nuL q m la la.length) (by omega)
    by_cases hg:tgC (q:Int) m d la=0
    ·obtain ⟨g1,g2⟩:=Vi hg
     obtain ⟨q',D,K,e1,rfl,_,d1,d2,k3,k1,k2,_,_,_,_⟩:=Vn g1
     obtain rfl:q'=q:=by omega
     have cG1:=Di q' D K m la g1 pr (by omega) b2 d1 d2 k1 k2 k3 b5 b6 g2
     have cG2:=Ei q' D K m la g1 pr (by omega) b2 d1 d2 k1 k2 k3 b5 b6 g2
     have hsl:=Dm q' D (llF q' m la) (K+1)
     have cS:=Js m (stS q' D (llF q' m la) (K+1)) (by omega)
     (repeat (first|((with_reducible refine rC rfl fun K hK=>?_);simp only [go_sem,seval,↓reduceIte,beq_self_eq_true];(first|refine hK _ _ _ ?_|refine ⟨_,hD3,hK _ _ _ ?_⟩|refine ⟨_,cN1,hK _ _ _ ?_⟩|refine ⟨_,cN2,hK _ _ _ ?_⟩|refine ⟨_,hD2,hK _ _ _ ?_⟩|refine ⟨_,cG1,hK _ _ _ ?_⟩|refine ⟨_,cG2,hK _ _ _ ?_⟩|refine ⟨_,cL,hK _ _ _ ?_⟩|refine ⟨_,cS,hK _ _ _ ?_⟩);clear hK K)|refine sT ?_))
     refine rt1 ?_
     rfl
    ·have cG1:=Dg (q:Int) m d la (by omega) hg
     have cG2:=Eh (q:Int) m d la (by omega) hg
     have cS:=G6 0
     (repeat (first|((with_reducible refine rC rfl fun K hK=>?_);simp only [go_sem,seval,↓reduceIte,beq_self_eq_true];(first|refine hK _ _ _ ?_|refine ⟨_,hD3,hK _ _ _ ?_⟩|refine ⟨_,cN1,hK _ _ _ ?_⟩|refine ⟨_,cN2,hK _ _ _ ?_⟩|refine ⟨_,hD2,hK _ _ _ ?_⟩|refine ⟨_,cG1,hK _ _ _ ?_⟩|refine ⟨_,cG2,hK _ _ _ ?_⟩|refine ⟨_,cL,hK _ _ _ ?_⟩|refine ⟨_,cS,hK _ _ _ ?_⟩);clear hK K)|refine sT ?_))
     refine rt1 ?_
     rfl
   ·have cN1:=Gz p m la (by omega) hn
    have cN2:=G0 p m la (by omega) hn
    have cL:=Ga
    by_cases hg:tgC p m d la=0
    ·obtain ⟨g1,g2⟩:=Vi hg
     obtain ⟨q',D,K,rfl,rfl,pr,d1,d2,k3,k1,k2,m1,m2,b5,b6⟩:=Vn g1
     have cG1:=Di q' D K m la g1 pr m1 m2 d1 d2 k1 k2 k3 b5 b6 g2
     have cG2:=Ei q' D K m la g1 pr m1 m2 d1 d2 k1 k2 k3 b5 b6 g2
     have hsl:=Dm q' D (llF q' m la) (K+1)
     have cS:=Js m (stS q' D (llF q' m la) (K+1)) (by omega)
     (repeat (first|((with_reducible refine rC rfl fun K hK=>?_);simp only [go_sem,seval,↓reduceIte,beq_self_eq_true];(first|refine hK _ _ _ ?_|refine ⟨_,hD3,hK _ _ _ ?_⟩|refine ⟨_,cN1,hK _ _ _ ?_⟩|refine ⟨_,cN2,hK _ _ _ ?_⟩|refine ⟨_,hD2,hK _ _ _ ?_⟩|refine ⟨_,cG1,hK _ _ _ ?_⟩|refine ⟨_,cG2,hK _ _ _ ?_⟩|refine ⟨_,cL,hK _ _ _ ?_⟩|refine ⟨_,cS,hK _ _ _ ?_⟩);clear hK K)|refine sT ?_))
     refine rt1 ?_
     rfl
    ·have cG1:=Dg p m d la (by omega) hg
     have cG2:=Eh p m d la (by omega) hg
     have cS:=G6 0
     (repeat (first|((with_reducible refine rC rfl fun K hK=>?_);simp only [go_sem,seval,↓reduceIte,beq_self_eq_true];(first|refine hK _ _ _ ?_|refine ⟨_,hD3,hK _ _ _ ?_⟩|refine ⟨_,cN1,hK _ _ _ ?_⟩|refine ⟨_,cN2,hK _ _ _ ?_⟩|refine ⟨_,hD2,hK _ _ _ ?_⟩|refine ⟨_,cG1,hK _ _ _ ?_⟩|refine ⟨_,cG2,hK _ _ _ ?_⟩|refine ⟨_,cL,hK _ _ _ ?_⟩|refine ⟨_,cS,hK _ _ _ ?_⟩);clear hK K)|refine sT ?_))
     refine rt1 ?_
     rfl
  ·simp only [putSeq]
   clear hD1 hD2 hD3
   by_cases hf:tfC p m la k y=0
   ·obtain ⟨q,j,K,rfl,rfl,pr,m1,m2,b5,b6,y1,y2,j1,j2,jK,k3,k1,k2,h0⟩:=Alo hf
    obtain ⟨i,rfl⟩:∃ i,j=i+1:=⟨j-1,by omega⟩
    have cI:=If q (i+1) K m y la h0 pr m1 m2 b5 y1 y2 j1 j2 jK k3 k1 k2
    have cS:=Ii q i K m y la h0 pr m1 m2 b5 b6 y1 y2 (by omega) jK k3 k1 k2
    have bz:=Ag (0-y) m (by omega)
    have e1:((0-y)%m+y)%m=0:=by
     rw [Int.emod_add_emod,show 0-y+y=0 by omega,Int.zero_emod]
    have zq1:=wid ((0-y)%m+y) (by omega) (by omega);have zq2:=tm ((0-y)%m+y) m (by omega);have zq3:m≠0:=(by omega);have zq4:((0:Int) != 0)=false:=rfl;have zq5:((0:Int)==0)=true:=rfl
    (repeat (first|((with_reducible refine rC rfl fun K hK=>?_);simp only [go_sem,seval,↓reduceIte,bne_self_eq_false,beq_self_eq_true,zq1,zq2,e1,zq3,zq4,zq5];(first|refine hK _ _ _ ?_|refine ⟨_,hD4,hK _ _ _ ?_⟩|refine ⟨_,cI,hK _ _ _ ?_⟩|refine ⟨_,cS,hK _ _ _ ?_⟩);clear hK K)|refine sT ?_))
    refine AWP.sub ?_ (by rfl) tail
    simp [Sub,lk]
   ·have cI:=Ih p m k y la (by omega) hf
    have cS:=Ig p m k y la (by omega) hf
    have zq6:(tfC p m la k y==0)=false:=(by simpa using hf)
    (repeat (first|((with_reducible refine rC rfl fun K hK=>?_);simp only [go_sem,seval,↓reduceIte,bne_self_eq_false,zq6];(first|refine hK _ _ _ ?_|refine ⟨_,hD4,hK _ _ _ ?_⟩|refine ⟨_,cI,hK _ _ _ ?_⟩|refine ⟨_,cS,hK _ _ _ ?_⟩);clear hK K)|refine sT ?_))
    refine AWP.sub ?_ (by rfl) tail
    simp [Sub,lk]
 ·simp only [putSeq]
  clear hD2 hD3 hD4
  by_cases ht:tlC p m d la=0
  ·obtain ⟨q,D,K,rfl,rfl,pr,d1,d2,k3,k1,k2,m1,m2,b5,b6⟩:=Vn ht
   have cI:=Kk q D K m la ht pr m1 m2 d1 d2 k1 k2 k3 b5 b6
   have cS:=Jz q D K m la ht pr m1 m2 d1 d2 k1 k2 k3 b5 b6
   have pF:=Jo (p:=q) (m:=m) (by omega) la D
   obtain ⟨hpl,hlw⟩:=Ajp pr m1 m2 d1 d2 k1 k2 k3 la
   have hs:=pF.shp2 (by omega)
   have cE:=K4 m (tyF q m la D) hs.five5
   have cPp:=Gu q m D K la pr m1 m2 d1 d2 k1 k2 k3 b6 hs.sm hlw
   have cIs:=Lq m (tyF q m la D) hs.sm
   rw [hlw] at cIs
   have hpr:(prm la K K).length=K:=Ae _ _
   (repeat (first|((with_reducible refine rC rfl fun K hK=>?_);simp only [go_sem,seval,↓reduceIte,bne_self_eq_false,beq_self_eq_true,hbig];(first|refine hK _ _ _ ?_|refine ⟨_,hb,hK _ _ _ ?_⟩|refine ⟨_,hD1,hK _ _ _ ?_⟩|refine ⟨_,cI,hK _ _ _ ?_⟩|refine ⟨_,cS,hK _ _ _ ?_⟩|refine ⟨_,cE,hK _ _ _ ?_⟩|refine ⟨_,cPp,hK _ _ _ ?_⟩|refine ⟨_,cIs,hK _ _ _ ?_⟩);clear hK K)|refine sT ?_))
   have pe:∀ i,i<K→(prm la K K).getD i 0=la.getD i 0:=fun i hi=>by
    rw [prm,Es hi,if_pos hi];rfl
   refine AWP.loop (fun i:Nat=>[(13,⟨0,.val (.int .i64 i)⟩),(11,⟨1,.own (.sl true 2 (intL (prm la K K)))⟩),(6,⟨1,.own (.sl true 2 (intL la))⟩),(3,⟨0,.val (.int .i64 q)⟩),(4,⟨0,.val (.int .i64 m)⟩),(5,⟨0,.val (.int .i64 D)⟩),(7,⟨2,.own (.box 26 (.agg [.int .i64 m,.sl true 27 (rowsO (tyF q m la D))]))⟩),(0,⟨0,.val (.str (.src a c l))⟩)]) (fun i=>i≤K) (fun i=>K-i) 0 (Nat.zero_le _) (fun i=>rfl) ?_ (fun i hi=>?_)
   ·simp [Sub,lk]
   ·by_cases hik:i<K
    ·have hl1:i<(prm la K K).length:=by rw [hpr];exact hik
     by_cases hil:i<la.length
     ·have zq7:(i:Int)<(K:Int):=(by omega);have zq8:(i:Int)<(la.length:Int):=(by omega);have zq9:=Ao la i hil;have zq10:=Ai la i (Nat.le_of_lt hil);have zq11:=Ao (prm la K K) i hl1;have zq12:=Ai (prm la K K) i (Nat.le_of_lt hl1);have zq13:=wid ((i:Int)+1) (by omega) (by omega)
      (repeat (first|((with_reducible refine rC rfl fun K hK=>?_);simp only [go_sem,seval,↓reduceIte,Bf,hpr,zq7,zq8,Int.toNat_natCast,Int.natCast_nonneg,Nat.mul_one,zq9,zq10,zq11,zq12,pe i hik,bne_self_eq_false,zq13];refine hK _ _ _ ?_;clear hK K)|refine sT ?_))
      exact ⟨i+1,by omega,by omega,by simp [Sub,lk]⟩
     ·have e0 : la.getD i 0 = 0 := by
       rw [List.getD_eq_getElem?_getD,List.getElem?_eq_none (by omega)];rfl
      have zq14:(i:Int)<(K:Int):=(by omega);have zq15:¬ (i:Int)<(la.length:Int):=(by omega);have zq16:=Ao (prm la K K) i hl1;have zq17:=Ai (prm la K K) i (Nat.le_of_lt hl1);have zq18:=wid ((i:Int)+1) (by omega) (by omega)
      (repeat (first|((with_reducible refine rC rfl fun K hK=>?_);simp only [go_sem,seval,↓reduceIte,Bf,hpr,zq14,zq15,Int.toNat_natCast,Int.natCast_nonneg,Nat.mul_one,zq16,zq17,pe i hik,e0,bne_self_eq_false,zq18];refine hK _ _ _ ?_;clear hK K)|refine sT ?_))
      exact ⟨i+1,by omega,by omega,by simp [Sub,lk]⟩
    ·obtain rfl:i=K:=by omega
     by_cases hg:tgC (q:Int) m (D:Int) la=0
     ·obtain ⟨_,g2⟩:=Vi hg
      have cG:=Di q D i m la ht pr m1 m2 d1 d2 k1 k2 k3 b5 b6 g2
      have hTL:=Am3 pr k1 k3 m1 la
      generalize hLG:stS q D (llF q m la) (i+1)=lg at *
      have hAd:=Als (Pn pr (at' (ty3 la))) (by omega) m1 d2 k1 k2 k3 (Ak0 pr m1 g2) hTL
      have hsl:lg.length=D+1:=hTL.len
      have hsr:=Abm m1 m2 (by omega) (by omega) hTL.num
      have hap:apC m lg m (tyF q m la D)=0:=by
       rw [apC,if_pos ⟨hpl,hsr⟩,if_pos ⟨rfl,by rw [pF.len,hsl]⟩,Ag8 pr,if_pos (by rfl)]
      have cA:=Jn m m lg (tyF q m la D) hs (by omega) hap
      rw [pF.len,show aftL m (D+1) (pc (tyF q m la D)) lg lg.length=suT m lg D from hAd] at cA
      have cX:=Ij m lg hsr
      have cY:=Ie m lg hsr
      rw [hsl] at cX cY
      obtain ⟨ax,ay⟩:=Ain (m:=m) (by omega) hTL.num (D+1)
      have cP:=Li m _ _ (Rj m1 m2 ax (by omega) (by omega)) (Rj m1 m2 ay (by omega) (by omega)) (by rw [ax.len,ay.len]) (ax.shp2 (by omega)).sm (ay.shp2 (by omega)).sm
      rw [ax.len,Acz] at cP
      have cF:=K4 m (suT m lg D) (((Ac5 (by omega) lg D).shp2 (by omega)).five5)
      have zq19:¬ (i:Int)<(i:Int):=(by omega)
      (repeat (first|((with_reducible refine rC rfl fun K hK=>?_);simp only [go_sem,seval,↓reduceIte,zq19,Bf,hpr,bne_self_eq_false,beq_self_eq_true];(first|refine hK _ _ _ ?_|refine ⟨_,cG,hK _ _ _ ?_⟩|refine ⟨_,cA,hK _ _ _ ?_⟩|refine ⟨_,cX,hK _ _ _ ?_⟩|refine ⟨_,cY,hK _ _ _ ?_⟩|refine ⟨_,cP,hK _ _ _ ?_⟩|refine ⟨_,cF,hK _ _ _ ?_⟩);clear hK K)|refine sT ?_))
      refine AWP.sub ?_ (by rfl) tail
      simp [Sub,lk]
     ·have cG:=Dg (q:Int) m (D:Int) la (by omega) hg
      have zq20:¬ (i:Int)<(i:Int):=(by omega);have zq21:(tgC (q:Int) m (D:Int) la==0)=false:=(by simpa using hg)
      (repeat (first|((with_reducible refine rC rfl fun K hK=>?_);simp only [go_sem,seval,↓reduceIte,zq20,Bf,hpr,zq21];(first|refine hK _ _ _ ?_|refine ⟨_,cG,hK _ _ _ ?_⟩);clear hK K)|refine sT ?_))
      refine AWP.sub ?_ (by rfl) tail
      simp [Sub,lk]
  ·have cI:=Kr p m d la (by omega) ht
   have cS:=Ko p m d la (by omega) ht
   have cE:=On 0
   have zq22:(tlC p m d la==0)=false:=(by simpa using ht)
   (repeat (first|((with_reducible refine rC rfl fun K hK=>?_);simp only [go_sem,seval,↓reduceIte,bne_self_eq_false,zq22,hbig];(first|refine hK _ _ _ ?_|refine ⟨_,hb,hK _ _ _ ?_⟩|refine ⟨_,hD1,hK _ _ _ ?_⟩|refine ⟨_,cI,hK _ _ _ ?_⟩|refine ⟨_,cS,hK _ _ _ ?_⟩|refine ⟨_,cE,hK _ _ _ ?_⟩);clear hK K)|refine sT ?_))
   refine AWP.sub ?_ (by rfl) tail
   simp [Sub,lk]
end Go.Proofs.YtapdekacpecgiaaGreat

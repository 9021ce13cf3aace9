import Derived.Test.YtapdekacpecgiaaGreatZj
import Derived.Test.YtapdekacpecgiaaGreatZh
namespace Go.Proofs.YtapdekacpecgiaaGreat
open Go.RowKit
set_option linter.unusedSimpArgs false
set_option linter.unusedVariables false
set_option linter.unusedSectionVars false
set_option maxRecDepth 20000
set_option maxHeartbeats 1000000
set_option maxHeartbeats 32000000 in
theorem Jx (a:Option Addr) (c:Nat) (l:List Int) (hlen:l.length≤9223372036854775807) (hx:∀ x∈l,0≤x∧x≤255):AFn Tryz.prog 6 [.str (.src a c l)] (.bool true):=by
 refine fO Tryz.func6 Tryz.ntmps6 (by rw [Tryz.results6]) fun C hP hM hC=>?_
 by_cases hbig:(4096:Int)<(l.length:Int)
 ·have hb:=Po a c l
  rw [decide_eq_true hbig] at hb
  (repeat (first|((with_reducible refine rC rfl fun K hK=>?_);simp only [go_sem,seval,↓reduceIte,hbig];(first|refine hK _ _ _ ?_|refine ⟨_,hb,hK _ _ _ ?_⟩);clear hK K)|refine sT ?_))
  refine rt1 ?_
  rfl
 have hb:=Po a c l
 rw [decide_eq_false hbig] at hb
 have hB:Byt l:=⟨by omega,hx⟩
 refine AWP.tailR 9 [(0,⟨0,.val (.str (.src a c l))⟩)] ?_ (fun R tail=>?_)
 ·simp only [dropSeq]
  clear hb hbig hlen hx
  obtain ⟨R0,m,t,hsh,hR,hD⟩:=Ph (a:=a) (c:=c) hB
  refine AWP.tailR 1 [(17,⟨2,.val (.fptr (.agg [.int .i64 m,.sl false 27 (rowsF t)]))⟩)] ?_ (fun R2 tail2=>?_)
  ·simp only [dropSeq]
   clear hD hR hB
   have cL:=Tp m t hsh.sm
   cases hL:lawB m t with
   | false=>
    rw [hL] at cL
    (repeat (first|((with_reducible refine rC rfl fun K hK=>?_);simp only [go_sem,seval,↓reduceIte];(first|refine hK _ _ _ ?_|refine ⟨_,cL,hK _ _ _ ?_⟩);clear hK K)|refine sT ?_))
    refine rt1 ?_
    rfl
   | true=>
    rw [hL] at cL
    have pt:=(Ba (A7 hL).1)
    by_cases pr:m=2∨m=3∨m=5∨m=7
    ·obtain ⟨f1,f2,f3,f4⟩:=Akl hL pr
     have cH:=Iv m t t (poL m (t.length-1)) hL hL f1 (by omega) (by omega) f3
     rw [f4] at cH
     have hset:=Ak2 (m:=m) (n:=t.length) (by omega) (by omega)
     have hm0:0≤m:=by omega
     have hll:(List.replicate t.length (0:Int)).length=t.length:=List.length_replicate ..
     obtain ⟨b2,b3,b5,b7,e2,e3,e5,e7,hbb⟩:∃ b2 b3 b5 b7:Bool,(m != 2)=b2∧(m != 3)=b3∧(m != 5)=b5∧(m != 7)=b7∧((b2=false)∨(b2=true∧b3=false)∨(b2=true∧b3=true∧b5=false)∨(b2=true∧b3=true∧b5=true∧b7=false)):=by
      refine ⟨_,_,_,_,rfl,rfl,rfl,rfl,?_⟩
      rcases pr with rfl|rfl|rfl|rfl <;> decide
     clear f1 f2 f3 f4 pr hsh hL
     by_cases hlt:m<(t.length:Int)
     ·rw [if_pos hlt] at hset
      rcases hbb with rfl|⟨rfl,rfl⟩|⟨rfl,rfl,rfl⟩|⟨rfl,rfl,rfl,rfl⟩
      all_goals
       have zq1:(t.length:Int)≤1099511627776:=(by omega);have zq2:=Ae (List.replicate t.length (0:Int)) m.toNat (by rw [hll];omega);have zq3:=Aa (List.replicate t.length (0:Int)) m.toNat (by rw [hll];omega);have zq4:((0:Int)==0)=true:=rfl
       (repeat (first|((with_reducible refine rC rfl fun K hK=>?_);simp only [go_sem,seval,↓reduceIte,e2,e3,e5,e7,Ab,Int.natCast_nonneg,Int.toNat_natCast,zq1,Bd,hlt,hll,hm0,Nat.mul_one,zq2,zq3,Ax,hset,zq4];(first|refine hK _ _ _ ?_|refine ⟨_,cL,hK _ _ _ ?_⟩|refine ⟨_,cH,hK _ _ _ ?_⟩);clear hK K)|refine sT ?_))
       refine rt1 ?_
       rfl
     ·rw [if_neg hlt] at hset
      rcases hbb with rfl|⟨rfl,rfl⟩|⟨rfl,rfl,rfl⟩|⟨rfl,rfl,rfl,rfl⟩
      all_goals
       have zq5:(t.length:Int)≤1099511627776:=(by omega);have zq6:((0:Int)==0)=true:=rfl
       (repeat (first|((with_reducible refine rC rfl fun K hK=>?_);simp only [go_sem,seval,↓reduceIte,e2,e3,e5,e7,Ab,Int.natCast_nonneg,Int.toNat_natCast,zq5,Bd,hlt,hset,zq6];(first|refine hK _ _ _ ?_|refine ⟨_,cL,hK _ _ _ ?_⟩|refine ⟨_,cH,hK _ _ _ ?_⟩);clear hK K)|refine sT ?_))
       refine rt1 ?_
       rfl
    ·have e2:(m != 2)=true:=by rw [bne_iff_ne];omega
     have e3:(m != 3)=true:=by rw [bne_iff_ne];omega
     have e5:(m != 5)=true:=by rw [bne_iff_ne];omega
     have e7:(m != 7)=true:=by rw [bne_iff_ne];omega
     (repeat (first|((with_reducible refine rC rfl fun K hK=>?_);simp only [go_sem,seval,↓reduceIte,e2,e3,e5,e7];(first|refine hK _ _ _ ?_|refine ⟨_,cL,hK _ _ _ ?_⟩);clear hK K)|refine sT ?_))
     refine rt1 ?_
     rfl
  ·simp only [putSeq]
   rcases hR with ⟨rfl|⟨k,h,L,k1,k2,k3,k4,rfl⟩,_⟩|⟨rfl,rfl⟩
   ·(repeat (first|((with_reducible refine rC rfl fun K hK=>?_);simp only [go_sem,seval,↓reduceIte];(first|refine hK _ _ _ ?_|refine ⟨_,hD,hK _ _ _ ?_⟩);clear hK K)|refine sT ?_))
    refine AWP.frz (s:=17) rfl ?_
    simp only [Dy,D1,T.freezeL,D6,Ez,Cu]
    refine AWP.sub ?_ (by rfl) tail2
    simp [Sub,lk]
   ·have hwr:((rowsF L).take h).drop k=rowsF t:=by rw [Sv,k4]
    (repeat (first|((with_reducible refine rC rfl fun K hK=>?_);simp only [go_sem,seval,↓reduceIte];(first|refine hK _ _ _ ?_|refine ⟨_,hD,hK _ _ _ ?_⟩);clear hK K)|refine sT ?_))
    refine AWP.frz (s:=17) rfl ?_
    simp only [Dy,D1,T.freezeL,D6,Jr,Cu,hwr]
    refine AWP.sub ?_ (by rfl) tail2
    simp [Sub,lk]
   ·(repeat (first|((with_reducible refine rC rfl fun K hK=>?_);simp only [go_sem,seval,↓reduceIte];(first|refine hK _ _ _ ?_|refine ⟨_,hD,hK _ _ _ ?_⟩);clear hK K)|refine sT ?_))
    refine AWP.frz (s:=17) rfl ?_
    simp only [Dy,D1,T.freezeL,D6,Jq]
    refine AWP.weak (t:=17) rfl (Zh m) rfl rfl ?_
    refine AWP.sub ?_ (by rfl) tail2
    simp [Sub,lk,rowsF]
 ·simp only [putSeq]
  obtain ⟨m,lf,RR,n,lg,hs1,hs2,hs3,hR,hD⟩:=Ix (a:=a) (c:=c) hB
  refine AWP.tailR 3 [(0,⟨0,.val (.str (.src a c l))⟩),(3,⟨2,.val (.fptr (.agg [.int .i64 m,.sl false 27 (rowsF lf)]))⟩),(4,⟨2,.val (.fptr (.agg [.int .i64 n,.sl false 27 (rowsF lg)]))⟩)] ?_ (fun R2 tail2=>?_)
  ·simp only [dropSeq]
   clear hb hbig hlen hx hD hR hB
   have z0:((0:Int)==0)=true:=rfl
   have z1:((0:Int) != 0)=false:=rfl
   by_cases hc1:stC m lf n lg=0
   ·have cI1:=Hj m n lf lg hs1.sm hs3.sm hc1
    have cS1:=Hn m n lf lg hs1.sm hs3.sm hc1
    obtain ⟨rfl,g1,g2,g3,g4,g5,g6,g7,g8⟩:=U2 hc1
    have hl:=Ba (A7 g1).1
    have q1:=Fy n (stV n lf lg) (by omega)
    have cL1:=De n lf (stV n lf lg) g1 g4 (by omega) g6 (by rw [g7];exact Re)
    rw [O3 g1 g2 g3 g4 g5 g6 (by rw [g7];exact Re) g8] at cL1
    have q2:=Lm n lg hs3.nine
    have hvl:1<(stV n lf lg).length:=by omega
    have i4:=Ajc hc1
    by_cases hc2:isoC n lf n lg=0
    ·have cI2:=Fg n n lf lg hs1.sm hs3.sm hc2
     have cS2:=Fd n n lf lg hs1.sm hs3.sm hc2
     obtain ⟨_,_,_,_,j4,j5,j6,j7,j8⟩:=S3 hc2
     have q3:=Fy n (isoV n lf lg) (by omega)
     have cL2:=De n lf (isoV n lf lg) g1 j4 (by omega) j6 j7
     rw [O3 g1 g2 g3 j4 j5 j6 j7 j8] at cL2
     have zq7:(0:Int)≤1:=(by omega);have zq8:(1:Int).toNat=1:=rfl;have zq9:(1:Int)<((stV n lf lg).length:Int):=(by omega);have zq10:=Ae (stV n lf lg) 1 hvl;have zq11:=Aa (stV n lf lg) 1 (by omega);have zq12:(stV n lf lg).getD 1 0=1:=g7;have zq13:((1:Int) != 1)=false:=rfl;have zq14:((0:Int)==4)=false:=rfl
     (repeat (first|((with_reducible refine rC rfl fun K hK=>?_);simp only [go_sem,seval,↓reduceIte,bne_self_eq_false,z0,z1,zq7,zq8,zq9,Nat.mul_one,zq10,zq11,zq12,zq13,zq14];(first|refine hK _ _ _ ?_|refine ⟨_,cI1,hK _ _ _ ?_⟩|refine ⟨_,cS1,hK _ _ _ ?_⟩|refine ⟨_,q1,hK _ _ _ ?_⟩|refine ⟨_,cI2,hK _ _ _ ?_⟩|refine ⟨_,cS2,hK _ _ _ ?_⟩|refine ⟨_,q3,hK _ _ _ ?_⟩|refine ⟨_,cL1,hK _ _ _ ?_⟩|refine ⟨_,cL2,hK _ _ _ ?_⟩|refine ⟨_,q2,hK _ _ _ ?_⟩);clear hK K)|refine sT ?_))
     refine AWP.sub ?_ (by rfl) tail
     simp [Sub,lk]
    ·have cI2:=Fe n n lf lg hs1.sm hs3.sm hc2
     have cS2:=Ff n n lf lg hs1.sm hs3.sm hc2
     have q3:=Gs 0
     have zq15:(0:Int)≤1:=(by omega);have zq16:(1:Int).toNat=1:=rfl;have zq17:(1:Int)<((stV n lf lg).length:Int):=(by omega);have zq18:=Ae (stV n lf lg) 1 hvl;have zq19:=Aa (stV n lf lg) 1 (by omega);have zq20:(stV n lf lg).getD 1 0=1:=g7;have zq21:((1:Int) != 1)=false:=rfl;have zq22:(isoC n lf n lg==4)=false:=(by rw [beq_eq_false_iff_ne];exact i4);have zq23:(isoC n lf n lg==0)=false:=(by rw [beq_eq_false_iff_ne];exact hc2)
     (repeat (first|((with_reducible refine rC rfl fun K hK=>?_);simp only [go_sem,seval,↓reduceIte,bne_self_eq_false,z0,z1,zq15,zq16,zq17,Nat.mul_one,zq18,zq19,zq20,zq21,zq22,zq23];(first|refine hK _ _ _ ?_|refine ⟨_,cI1,hK _ _ _ ?_⟩|refine ⟨_,cS1,hK _ _ _ ?_⟩|refine ⟨_,q1,hK _ _ _ ?_⟩|refine ⟨_,cI2,hK _ _ _ ?_⟩|refine ⟨_,cS2,hK _ _ _ ?_⟩|refine ⟨_,q3,hK _ _ _ ?_⟩|refine ⟨_,cL1,hK _ _ _ ?_⟩|refine ⟨_,q2,hK _ _ _ ?_⟩);clear hK K)|refine sT ?_))
     refine AWP.sub ?_ (by rfl) tail
     simp [Sub,lk]
   ·have cI1:=Hd m n lf lg hs1.sm hs3.sm hc1
    have cS1:=He m n lf lg hs1.sm hs3.sm hc1
    have q1:=Gs 0
    by_cases hc2:isoC m lf n lg=0
    ·have cI2:=Fg m n lf lg hs1.sm hs3.sm hc2
     have cS2:=Fd m n lf lg hs1.sm hs3.sm hc2
     obtain ⟨rfl,g1,g2,g3,j4,j5,j6,j7,j8⟩:=S3 hc2
     have hl:=Ba (A7 g1).1
     have q2:=Lm n lg hs3.nine
     have q3:=Fy n (isoV n lf lg) (by omega)
     have cL2:=De n lf (isoV n lf lg) g1 j4 (by omega) j6 j7
     rw [O3 g1 g2 g3 j4 j5 j6 j7 j8] at cL2
     have zq24:(stC n lf n lg==0)=false:=(by rw [beq_eq_false_iff_ne];exact hc1)
     (repeat (first|((with_reducible refine rC rfl fun K hK=>?_);simp only [go_sem,seval,↓reduceIte,bne_self_eq_false,z0,z1,zq24];(first|refine hK _ _ _ ?_|refine ⟨_,cI1,hK _ _ _ ?_⟩|refine ⟨_,cS1,hK _ _ _ ?_⟩|refine ⟨_,q1,hK _ _ _ ?_⟩|refine ⟨_,cI2,hK _ _ _ ?_⟩|refine ⟨_,cS2,hK _ _ _ ?_⟩|refine ⟨_,q3,hK _ _ _ ?_⟩|refine ⟨_,cL2,hK _ _ _ ?_⟩|refine ⟨_,q2,hK _ _ _ ?_⟩);clear hK K)|refine sT ?_))
     refine AWP.sub ?_ (by rfl) tail
     simp [Sub,lk]
    ·have cI2:=Fe m n lf lg hs1.sm hs3.sm hc2
     have cS2:=Ff m n lf lg hs1.sm hs3.sm hc2
     have zq25:(stC m lf n lg==0)=false:=(by rw [beq_eq_false_iff_ne];exact hc1);have zq26:(isoC m lf n lg==0)=false:=(by rw [beq_eq_false_iff_ne];exact hc2)
     (repeat (first|((with_reducible refine rC rfl fun K hK=>?_);simp only [go_sem,seval,↓reduceIte,bne_self_eq_false,z0,z1,zq25,zq26];(first|refine hK _ _ _ ?_|refine ⟨_,cI1,hK _ _ _ ?_⟩|refine ⟨_,cS1,hK _ _ _ ?_⟩|refine ⟨_,q1,hK _ _ _ ?_⟩|refine ⟨_,cI2,hK _ _ _ ?_⟩|refine ⟨_,cS2,hK _ _ _ ?_⟩);clear hK K)|refine sT ?_))
     refine AWP.sub ?_ (by rfl) tail
     simp [Sub,lk]
  ·simp only [putSeq]
   rcases hR with ⟨rfl|⟨k,h,L,k1,k2,k3,k4,rfl⟩,_⟩|⟨rfl,rfl⟩
   ·(repeat (first|((with_reducible refine rC rfl fun K hK=>?_);simp only [go_sem,seval,↓reduceIte,hbig];(first|refine hK _ _ _ ?_|refine ⟨_,hb,hK _ _ _ ?_⟩|refine ⟨_,hD,hK _ _ _ ?_⟩);clear hK K)|refine sT ?_))
    refine AWP.frz (s:=3) rfl ?_
    refine AWP.frz (s:=4) rfl ?_
    simp only [Dy,D1,T.freezeL,D6,Ez,Cu]
    refine AWP.sub ?_ (by rfl) tail2
    simp [Sub,lk]
   ·have hwr:((rowsF L).take h).drop k=rowsF lg:=by rw [Sv,k4]
    (repeat (first|((with_reducible refine rC rfl fun K hK=>?_);simp only [go_sem,seval,↓reduceIte,hbig];(first|refine hK _ _ _ ?_|refine ⟨_,hb,hK _ _ _ ?_⟩|refine ⟨_,hD,hK _ _ _ ?_⟩);clear hK K)|refine sT ?_))
    refine AWP.frz (s:=3) rfl ?_
    refine AWP.frz (s:=4) rfl ?_
    simp only [Dy,D1,T.freezeL,D6,Ez,Cu,Jr,hwr]
    refine AWP.sub ?_ (by rfl) tail2
    simp [Sub,lk]
   ·(repeat (first|((with_reducible refine rC rfl fun K hK=>?_);simp only [go_sem,seval,↓reduceIte,hbig];(first|refine hK _ _ _ ?_|refine ⟨_,hb,hK _ _ _ ?_⟩|refine ⟨_,hD,hK _ _ _ ?_⟩);clear hK K)|refine sT ?_))
    refine AWP.frz (s:=3) rfl ?_
    refine AWP.frz (s:=4) rfl ?_
    simp only [Dy,D1,T.freezeL,D6,Ez,Cu,Jq]
    refine AWP.weak (t:=4) rfl (Zh n) rfl rfl ?_
    refine AWP.sub ?_ (by rfl) tail2
    simp [Sub,lk,rowsF]
end Go.Proofs.YtapdekacpecgiaaGreat

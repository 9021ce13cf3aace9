import Derived.Test.YtapdekacpecgiaaGreatNb
import Derived.Test.YtapdekacpecgiaaGreatMb
import Derived.Test.YtapdekacpecgiaaGreatLd
import Derived.Test.YtapdekacpecgiaaGreatCu
namespace Go.Proofs.YtapdekacpecgiaaGreat
open Go.RowKit
set_option linter.unusedSimpArgs false
set_option linter.unusedVariables false
set_option linter.unusedSectionVars false
set_option maxRecDepth 20000
set_option maxHeartbeats 1000000
def typ4 (p:Int):Bool:=(p==2)||(p==3)||(p==5)||(p==7)
theorem D1 {p:Int} (h:typ4 p=true):∃ q:Nat,p=(q:Int)∧(q=2∨q=3∨q=5∨q=7):=by
 simp only [typ4,Bool.or_eq_true,beq_iff_eq] at h
 rcases h with ((h|h)|h)|h
 ·exact ⟨2,h,.inl rfl⟩
 ·exact ⟨3,h,.inr (.inl rfl)⟩
 ·exact ⟨5,h,.inr (.inr (.inl rfl))⟩
 ·exact ⟨7,h,.inr (.inr (.inr rfl))⟩
theorem B4 (p:Int):AFn Tryz.prog 196 [.int .i64 p] (.bool (typ4 p)):=by
 refine fO Tryz.func196 Tryz.ntmps196 (by rw [Tryz.results196]) fun C hP hM hC=>?_
 cases h2:(p==2) with
 | true=>
  (repeat (first|((with_reducible refine rC rfl fun K hK=>?_);simp only [go_sem,seval,↓reduceIte,h2];refine hK _ _ _ ?_;clear hK K)|refine sT ?_))
  refine rt1 ?_
  simp [typ4,h2]
 | false=>
  cases h3:(p==3) with
  | true=>
   (repeat (first|((with_reducible refine rC rfl fun K hK=>?_);simp only [go_sem,seval,↓reduceIte,h2,h3];refine hK _ _ _ ?_;clear hK K)|refine sT ?_))
   refine rt1 ?_
   simp [typ4,h2,h3]
  | false=>
   cases h5:(p==5) with
   | true=>
    (repeat (first|((with_reducible refine rC rfl fun K hK=>?_);simp only [go_sem,seval,↓reduceIte,h2,h3,h5];refine hK _ _ _ ?_;clear hK K)|refine sT ?_))
    refine rt1 ?_
    simp [typ4,h2,h3,h5]
   | false=>
    cases h7:(p==7) with
    | true=>
     (repeat (first|((with_reducible refine rC rfl fun K hK=>?_);simp only [go_sem,seval,↓reduceIte,h2,h3,h5,h7];refine hK _ _ _ ?_;clear hK K)|refine sT ?_))
     refine rt1 ?_
     simp [typ4,h2,h3,h5,h7]
    | false=>
     (repeat (first|((with_reducible refine rC rfl fun K hK=>?_);simp only [go_sem,seval,↓reduceIte,h2,h3,h5,h7];refine hK _ _ _ ?_;clear hK K)|refine sT ?_))
     refine rt1 ?_
     simp [typ4,h2,h3,h5,h7]
theorem Ey (p:Int):AFn Tryz.prog 197 [.int .i64 p] (.bool (typ4 p)):=by
 refine fO Tryz.func197 Tryz.ntmps197 (by rw [Tryz.results197]) fun C hP hM hC=>?_
 cases h2:(p==2) with
 | true=>
  (repeat (first|((with_reducible refine rC rfl fun K hK=>?_);simp only [go_sem,seval,↓reduceIte,h2];refine hK _ _ _ ?_;clear hK K)|refine sT ?_))
  refine rt1 ?_
  simp [typ4,h2]
 | false=>
  cases h3:(p==3) with
  | true=>
   (repeat (first|((with_reducible refine rC rfl fun K hK=>?_);simp only [go_sem,seval,↓reduceIte,h2,h3];refine hK _ _ _ ?_;clear hK K)|refine sT ?_))
   refine rt1 ?_
   simp [typ4,h2,h3]
  | false=>
   cases h5:(p==5) with
   | true=>
    (repeat (first|((with_reducible refine rC rfl fun K hK=>?_);simp only [go_sem,seval,↓reduceIte,h2,h3,h5];refine hK _ _ _ ?_;clear hK K)|refine sT ?_))
    refine rt1 ?_
    simp [typ4,h2,h3,h5]
   | false=>
    cases h7:(p==7) with
    | true=>
     (repeat (first|((with_reducible refine rC rfl fun K hK=>?_);simp only [go_sem,seval,↓reduceIte,h2,h3,h5,h7];refine hK _ _ _ ?_;clear hK K)|refine sT ?_))
     refine rt1 ?_
     simp [typ4,h2,h3,h5,h7]
    | false=>
     (repeat (first|((with_reducible refine rC rfl fun K hK=>?_);simp only [go_sem,seval,↓reduceIte,h2,h3,h5,h7];refine hK _ _ _ ?_;clear hK K)|refine sT ?_))
     refine rt1 ?_
     simp [typ4,h2,h3,h5,h7]
def tydC (p m:Int) (l:List Int) (least:Nat):Int:=
 if (decide (2≤m)&&decide (m≤10000))=false then 1 else if typ4 p=false then 2 else if l.length<least∨3<l.length then 2 else if l.all (isNum m) then 0 else 2
theorem Gm {p m:Int} {l:List Int} {least:Nat} (h:tydC p m l least=0):2≤m∧m≤10000∧typ4 p=true∧least≤l.length∧l.length≤3∧∀ x∈l,0≤x∧x<m:=by
 unfold tydC at h
 split at h
 ·omega
 ·rename_i h1
  split at h
  ·omega
  ·rename_i h2
   split at h
   ·omega
   ·rename_i h3
    split at h
    ·rename_i h4
     simp only [Bool.not_eq_false,Bool.and_eq_true,decide_eq_true_eq] at h1 h2
     refine ⟨h1.1,h1.2,h2,by omega,by omega,fun x hx=>?_⟩
     have:=List.all_eq_true.1 h4 x hx
     simp only [isNum,Bool.and_eq_true,decide_eq_true_eq] at this
     omega
    ·omega
theorem Db (p m:Int) (l:List Int) (least:Nat) (hl:l.length≤1000000) (hn:least≤3):AFn Tryz.prog 112 [.int .i64 p,.int .i64 m,.sl false 2 (intL l),.int .i64 least] (.int .i64 (tydC p m l least)):=by
 refine fO Tryz.func112 Tryz.ntmps112 (by rw [Tryz.results112]) fun C hP hM hC=>?_
 have cM:=Bz m
 have cP:=Ey p
 cases h1:(decide (2≤m)&&decide (m≤10000)) with
 | false=>
  (repeat (first|((with_reducible refine rC rfl fun K hK=>?_);simp only [go_sem,seval,↓reduceIte,h1];(first|refine hK _ _ _ ?_|refine ⟨_,cM,hK _ _ _ ?_⟩);clear hK K)|refine sT ?_))
  refine rt1 ?_
  rw [tydC,if_pos h1]
 | true=>
  cases h2:typ4 p with
  | false=>
   (repeat (first|((with_reducible refine rC rfl fun K hK=>?_);simp only [go_sem,seval,↓reduceIte,h1,h2];(first|refine hK _ _ _ ?_|refine ⟨_,cM,hK _ _ _ ?_⟩|refine ⟨_,cP,hK _ _ _ ?_⟩);clear hK K)|refine sT ?_))
   refine rt1 ?_
   rw [tydC,if_neg (by rw [h1];simp),if_pos h2]
  | true=>
   have cC:=Q1 m l (by omega)
   by_cases h3:l.length<least
   ·have zq1:(l.length:Int)<(least:Int):=(by omega)
    (repeat (first|((with_reducible refine rC rfl fun K hK=>?_);simp only [go_sem,seval,↓reduceIte,h1,h2,zq1];(first|refine hK _ _ _ ?_|refine ⟨_,cM,hK _ _ _ ?_⟩|refine ⟨_,cP,hK _ _ _ ?_⟩);clear hK K)|refine sT ?_))
    refine rt1 ?_
    rw [tydC,if_neg (by rw [h1];simp),if_neg (by rw [h2];simp),if_pos (.inl h3)]
   ·by_cases h4:3<l.length
    ·have zq2:¬ (l.length:Int)<(least:Int):=(by omega);have zq3:(3:Int)<(l.length:Int):=(by omega)
     (repeat (first|((with_reducible refine rC rfl fun K hK=>?_);simp only [go_sem,seval,↓reduceIte,h1,h2,zq2,zq3];(first|refine hK _ _ _ ?_|refine ⟨_,cM,hK _ _ _ ?_⟩|refine ⟨_,cP,hK _ _ _ ?_⟩);clear hK K)|refine sT ?_))
     refine rt1 ?_
     rw [tydC,if_neg (by rw [h1];simp),if_neg (by rw [h2];simp),if_pos (.inr h4)]
    ·have zq4:¬ (l.length:Int)<(least:Int):=(by omega);have zq5:¬ (3:Int)<(l.length:Int):=(by omega)
     (repeat (first|((with_reducible refine rC rfl fun K hK=>?_);simp only [go_sem,seval,↓reduceIte,h1,h2,zq4,zq5];(first|refine hK _ _ _ ?_|refine ⟨_,cM,hK _ _ _ ?_⟩|refine ⟨_,cP,hK _ _ _ ?_⟩|refine ⟨_,cC,hK _ _ _ ?_⟩);clear hK K)|refine sT ?_))
     refine rt1 ?_
     rw [tydC,if_neg (by rw [h1];simp),if_neg (by rw [h2];simp),if_neg (by omega),codeN,if_pos h1]
theorem Cq (p m:Int) (l:List Int) (least:Nat) (hl:l.length≤1000000) (hn:least≤3):AFn Tryz.prog 114 [.int .i64 p,.int .i64 m,.sl false 2 (intL l),.int .i64 least] (.int .i64 (tydC p m l least)):=by
 refine fO Tryz.func114 Tryz.ntmps114 (by rw [Tryz.results114]) fun C hP hM hC=>?_
 have cM:=Dk m
 have cP:=B4 p
 cases h1:(decide (2≤m)&&decide (m≤10000)) with
 | false=>
  (repeat (first|((with_reducible refine rC rfl fun K hK=>?_);simp only [go_sem,seval,↓reduceIte,h1];(first|refine hK _ _ _ ?_|refine ⟨_,cM,hK _ _ _ ?_⟩);clear hK K)|refine sT ?_))
  refine rt1 ?_
  rw [tydC,if_pos h1]
 | true=>
  have hm:2≤m∧m≤10000:=by simpa using h1
  cases h2:typ4 p with
  | false=>
   (repeat (first|((with_reducible refine rC rfl fun K hK=>?_);simp only [go_sem,seval,↓reduceIte,h1,h2];(first|refine hK _ _ _ ?_|refine ⟨_,cM,hK _ _ _ ?_⟩|refine ⟨_,cP,hK _ _ _ ?_⟩);clear hK K)|refine sT ?_))
   refine rt1 ?_
   rw [tydC,if_neg (by rw [h1];simp),if_pos h2]
  | true=>
   have cC:=E6 m l (by omega) (by omega) (by omega)
   cases h5:l.all (isNum m) with
   | false=>
    (repeat (first|((with_reducible refine rC rfl fun K hK=>?_);simp only [go_sem,seval,↓reduceIte,h1,h2,h5];(first|refine hK _ _ _ ?_|refine ⟨_,cM,hK _ _ _ ?_⟩|refine ⟨_,cP,hK _ _ _ ?_⟩|refine ⟨_,cC,hK _ _ _ ?_⟩);clear hK K)|refine sT ?_))
    refine rt1 ?_
    rw [tydC,if_neg (by rw [h1];simp),if_neg (by rw [h2];simp),h5]
    split <;> simp
   | true=>
    by_cases h3:l.length<least
    ·have zq1:(l.length:Int)<(least:Int):=(by omega)
     (repeat (first|((with_reducible refine rC rfl fun K hK=>?_);simp only [go_sem,seval,↓reduceIte,h1,h2,h5,zq1];(first|refine hK _ _ _ ?_|refine ⟨_,cM,hK _ _ _ ?_⟩|refine ⟨_,cP,hK _ _ _ ?_⟩|refine ⟨_,cC,hK _ _ _ ?_⟩);clear hK K)|refine sT ?_))
     refine rt1 ?_
     rw [tydC,if_neg (by rw [h1];simp),if_neg (by rw [h2];simp),if_pos (.inl h3)]
    ·by_cases h4:3<l.length
     ·have zq2:¬ (l.length:Int)<(least:Int):=(by omega);have zq3:(3:Int)<(l.length:Int):=(by omega)
      (repeat (first|((with_reducible refine rC rfl fun K hK=>?_);simp only [go_sem,seval,↓reduceIte,h1,h2,h5,zq2,zq3];(first|refine hK _ _ _ ?_|refine ⟨_,cM,hK _ _ _ ?_⟩|refine ⟨_,cP,hK _ _ _ ?_⟩|refine ⟨_,cC,hK _ _ _ ?_⟩);clear hK K)|refine sT ?_))
      refine rt1 ?_
      rw [tydC,if_neg (by rw [h1];simp),if_neg (by rw [h2];simp),if_pos (.inr h4)]
     ·have zq4:¬ (l.length:Int)<(least:Int):=(by omega);have zq5:¬ (3:Int)<(l.length:Int):=(by omega)
      (repeat (first|((with_reducible refine rC rfl fun K hK=>?_);simp only [go_sem,seval,↓reduceIte,h1,h2,h5,zq4,zq5];(first|refine hK _ _ _ ?_|refine ⟨_,cM,hK _ _ _ ?_⟩|refine ⟨_,cP,hK _ _ _ ?_⟩|refine ⟨_,cC,hK _ _ _ ?_⟩);clear hK K)|refine sT ?_))
      refine rt1 ?_
      rw [tydC,if_neg (by rw [h1];simp),if_neg (by rw [h2];simp),if_neg (by omega),if_pos h5]
theorem K8 (l:List Int) (hl:l.length≤3):AFn Tryz.prog 122 [.sl false 2 (intL l)] (.sl true 2 (intL (ty3 l))):=by
 refine fO Tryz.func122 Tryz.ntmps122 (by rw [Tryz.results122]) fun C hP hM hC=>?_
 have cO:=Jg l (by omega)
 have e:intL l++List.replicate (3-l.length) (T.int .i64 0)=intL (ty3 l):=by simp [intL,ty3]
 have w1:IntKind.i64.wrap (3-(l.length:Int))=((3-l.length:Nat):Int):=by rw [wid _ (by omega) (by omega)];omega
 have e2:(if 0<((3-l.length:Nat):Int) then ((3-l.length:Nat):Int) else 0)=((3-l.length:Nat):Int):=by split <;> omega
 have e3:(if ((3-l.length:Nat):Int)>0 then ((3-l.length:Nat):Int) else 0)=((3-l.length:Nat):Int):=e2
 have hsc:(intL l).all T.scalar=true:=by simp [intL,T.scalar]
 have zq1:l.length+(3-l.length)≤1099511627776:=(by omega);have zq2:(l.length+(3-l.length))*8≤140737488355328:=(by omega)
 (repeat (first|((with_reducible refine rC rfl fun K hK=>?_);simp only [go_sem,seval,↓reduceIte,w1,e2,e3,e,hsc,Int.natCast_nonneg,Int.toNat_natCast,Bf,zq1,zq2];(first|refine hK _ _ _ ?_|refine ⟨_,cO,hK _ _ _ ?_⟩);clear hK K)|refine sT ?_))
 refine rt1 ?_
 rfl
theorem Ajg {p:Nat} {m:Int} {l A:List Int} {k i:Nat}:(nuP p m l A k i+((p:Int)%m)^(k-1-i)%m*(at' A i*((at' l (k-i-1)%m)^(p^i)%m)%m)%m)%m=nuP p m l A k (i+1):=by
 rw [nuP]
 refine Bh rfl ?_
 rw [Int.emod_emod,Dv,Dv]
 have e1:((p:Int)^(k-1-i)%m*at' A i%m)*(at' l (k-i-1)^(p^i)%m)%m=(p:Int)^(k-1-i)*at' A i*at' l (k-i-1)^(p^i)%m:=Af (by rw [Int.emod_emod];exact Af (Int.emod_emod _ _) rfl) (Int.emod_emod _ _)
 rw [e1,Int.mul_assoc ((p:Int)^(k-1-i))]
 refine Af (Int.emod_emod _ _) ?_
 rw [Int.emod_emod]
 exact Af rfl (Int.emod_emod _ _)
set_option maxHeartbeats 4000000 in
theorem E9 (p:Nat) (m:Int) (l:List Int) (hp:2≤p) (hp2:p≤7) (hm:0<m) (hm2:m≤1099511627776) (hl:l.length≤3) (hl0:∀ x∈l,0≤x∧x<m):AFn Tryz.prog 121 [.int .i64 p,.int .i64 m,.sl false 2 (intL l)] (.sl true 2 (intL (nuL p m l l.length))):=by
 refine fO Tryz.func121 Tryz.ntmps121 (by rw [Tryz.results121]) fun C hP hM hC=>?_
 have e1:(1:Int).tmod m=1%m:=tm 1 m (by omega)
 have e0:[T.int .i64 (1%m)]=intL (nuL p m l 0):=rfl
 have zq1:m≠0:=(by omega)
 (repeat (first|((with_reducible refine rC rfl fun K hK=>?_);simp only [go_sem,seval,↓reduceIte,e1,zq1,e0];refine hK _ _ _ ?_;clear hK K)|refine sT ?_))
 refine AWP.loop (fun w:Nat×Nat=>[(8,⟨0,.val (.int .i64 (w.1+1:Nat))⟩),(7,⟨w.2,.own (.sl true 2 (intL (nuL p m l w.1)))⟩),(0,⟨0,.val (.int .i64 p)⟩),(1,⟨0,.val (.int .i64 m)⟩),(2,⟨0,.val (.sl false 2 (intL l))⟩)]) (fun w=>w.1≤l.length) (fun w=>l.length-w.1) (0,1) (Nat.zero_le _) (fun i=>rfl) ?_ (fun w hw=>?_)
 ·simp [Sub,lk]
 ·obtain ⟨k,v⟩:=w
  simp only at hw ⊢
  have hf:=Gr (p:=p) hm l k
  by_cases h:k<l.length
  ·have zq2:((k+1:Nat):Int)≤(l.length:Int):=(by omega)
   (repeat (first|((with_reducible refine rC rfl fun K hK=>?_);simp only [go_sem,seval,↓reduceIte,zq2];refine hK _ _ _ ?_;clear hK K)|refine sT ?_))
   refine AWP.loop (fun i:Nat=>[(22,⟨0,.val (.int .i64 i)⟩),(21,⟨0,.val (.int .i64 (k+1:Nat))⟩),(9,⟨0,.val (.int .i64 (nuP p m l (nuL p m l k) (k+1) i))⟩),(8,⟨0,.val (.int .i64 (k+1:Nat))⟩),(7,⟨v,.own (.sl true 2 (intL (nuL p m l k)))⟩),(0,⟨0,.val (.int .i64 p)⟩),(1,⟨0,.val (.int .i64 m)⟩),(2,⟨0,.val (.sl false 2 (intL l))⟩)]) (fun i=>i≤k+1) (fun i=>k+1-i) 0 (Nat.zero_le _) (fun i=>rfl) ?_ (fun i hi=>?_)
   ·simp [Sub,lk,nuP]
   ·by_cases hik:i<k+1
    ·have hpi : p ^ i ≤ 49 := by
      have h1:p^i≤7^i:=Nat.pow_le_pow_left hp2 i
      have h2:7^i≤7^2:=Nat.pow_le_pow_right (by omega) (by omega)
      omega
     have hA:=A4 hf.2 hm i
     have hL:=Ag (at' l (k-i)) m hm
     have hl1:=A4 hl0 hm (k-i)
     have hpm:=Ag (p:Int) m hm
     have c1:=E2 1099511627776 (p:Int) i (by omega) (by omega) (by omega) (by omega) (by omega)
     rw [← Int.natCast_pow,Int.emod_eq_of_lt (by omega) (by omega)] at c1
     have c2:=E2 m (at' l (k-i)%m) (p^i) hm hm2 hL.1 hL.2 (by omega)
     have b2:=Ag ((at' l (k-i)%m)^(p^i)) m hm
     have c3:=Cv m (at' (nuL p m l k) i) ((at' l (k-i)%m)^(p^i)%m) hm hm2 hA.1 hA.2 b2.1 b2.2
     have b3:=Ag (at' (nuL p m l k) i*((at' l (k-i)%m)^(p^i)%m)) m hm
     have c4:=E2 m ((p:Int)%m) (k-i) hm hm2 hpm.1 hpm.2 (by omega)
     have b4:=Ag (((p:Int)%m)^(k-i)) m hm
     have c5:=Cv m (((p:Int)%m)^(k-i)%m) (at' (nuL p m l k) i*((at' l (k-i)%m)^(p^i)%m)%m) hm hm2 b4.1 b4.2 b3.1 b3.2
     have b5:=Ag (((p:Int)%m)^(k-i)%m*(at' (nuL p m l k) i*((at' l (k-i)%m)^(p^i)%m)%m)) m hm
     have b6:=Acf (p:=p) hm l (nuL p m l k) (k+1) i
     have e4:(nuP p m l (nuL p m l k) (k+1) i+((p:Int)%m)^(k-i)%m*(at' (nuL p m l k) i*((at' l (k-i)%m)^(p^i)%m)%m)%m)%m=nuP p m l (nuL p m l k) (k+1) (i+1):=by
      have:=Ajg (p:=p) (m:=m) (l:=l) (A:=nuL p m l k) (k:=k+1) (i:=i)
      rwa [show k+1-1-i=k-i by omega,show k+1-i-1=k-i by omega] at this
     have zq3:(i:Int)<((k+1:Nat):Int):=(by omega);have zq4:IntKind.i64.wrap (((k+1:Nat):Int)-1)=(k:Int):=(by rw [wid _ (by omega) (by omega)];omega);have zq5:IntKind.i64.wrap ((k:Int)-(i:Int))=((k-i:Nat):Int):=(by rw [wid _ (by omega) (by omega)];omega);have zq6:IntKind.i64.wrap (((k+1:Nat):Int)-(i:Int))=((k-i+1:Nat):Int):=(by rw [wid _ (by omega) (by omega)];omega);have zq7:IntKind.i64.wrap (((k-i+1:Nat):Int)-1)=((k-i:Nat):Int):=(by rw [wid _ (by omega) (by omega)];omega);have zq8:=Ao (nuL p m l k) i (by rw [hf.1];omega);have zq9:=Ai (nuL p m l k) i (by rw [hf.1];omega);have zq10:(nuL p m l k).getD i 0=at' (nuL p m l k) i:=rfl;have zq11:((k-i:Nat):Int)<(l.length:Int):=(by omega);have zq12:=Ac l (k-i) (by omega);have zq13:l.getD (k-i) 0=at' l (k-i):=rfl;have zq14:=tm (at' l (k-i)) m hl1.1;have zq15:=tm (p:Int) m (by omega);have zq16:m≠0:=(by omega);have zq17:=wid (nuP p m l (nuL p m l k) (k+1) i+((p:Int)%m)^(k-i)%m*(at' (nuL p m l k) i*((at' l (k-i)%m)^(p^i)%m)%m)%m) (by omega) (by omega);have zq18:=tm (nuP p m l (nuL p m l k) (k+1) i+((p:Int)%m)^(k-i)%m*(at' (nuL p m l k) i*((at' l (k-i)%m)^(p^i)%m)%m)%m) m (by omega);have zq19:=wid ((i:Int)+1) (by omega) (by omega)
     (repeat (first|((with_reducible refine rC rfl fun K hK=>?_);simp only [go_sem,seval,↓reduceIte,zq3,zq4,zq5,zq6,zq7,hf.1,Int.natCast_nonneg,Int.toNat_natCast,Nat.mul_one,zq8,zq9,zq10,zq11,zq12,zq13,zq14,zq15,zq16,zq17,zq18,e4,zq19];(first|refine hK _ _ _ ?_|refine ⟨_,c1,hK _ _ _ ?_⟩|refine ⟨_,c2,hK _ _ _ ?_⟩|refine ⟨_,c3,hK _ _ _ ?_⟩|refine ⟨_,c4,hK _ _ _ ?_⟩|refine ⟨_,c5,hK _ _ _ ?_⟩);clear hK K)|refine sT ?_))
     exact ⟨i+1,by omega,by omega,by simp [Sub,lk]⟩
    ·obtain rfl:i=k+1:=by omega
     have zq20:¬ ((k+1:Nat):Int)<((k+1:Nat):Int):=(by omega);have zq21:nuL p m l k++[nuP p m l (nuL p m l k) (k+1) (k+1)]=nuL p m l (k+1):=rfl;have zq22:k+1+1≤1099511627776:=(by omega);have zq23:(k+1+1)*8≤140737488355328:=(by omega);have zq24:IntKind.i64.wrap (((k+1:Nat):Int)+1)=((k+1+1:Nat):Int):=(by rw [wid _ (by omega) (by omega)];omega)
     (repeat (first|((with_reducible refine rC rfl fun K hK=>?_);simp only [go_sem,seval,↓reduceIte,zq20,hf.1,Bt,zq21,zq22,zq23,zq24];refine hK _ _ _ ?_;clear hK K)|refine sT ?_))
     exact ⟨(k+1,v+1),by simp only;omega,by simp only;omega,by simp [Sub,lk]⟩
  ·obtain rfl:k=l.length:=by omega
   have zq25:¬ ((l.length+1:Nat):Int)≤(l.length:Int):=(by omega)
   (repeat (first|((with_reducible refine rC rfl fun K hK=>?_);simp only [go_sem,seval,↓reduceIte,zq25];refine hK _ _ _ ?_;clear hK K)|refine sT ?_))
   refine rt1 ?_
   rfl
theorem Lh (p:Nat) (w:Int) (G:List (List Int)) (d i j:Nat) (hp:2≤p) (hp2:p≤7) (hd:d≤10) (hG:Pl w (d+1) G) (hw:w≤1099511627776) (hij:i+j<d+1):AFn Tryz.prog 202 [.int .i64 i,.int .i64 j,.fptr (.int .i64 p),.fptr (.agg [.int .i64 w,.sl false 27 (rowsF G)])] (.int .i64 (pc G i j/(p:Int)^(i+j-1))):=by
 refine fO Tryz.func202 Tryz.ntmps202 (by rw [Tryz.results202]) fun C hP hM hC=>?_
 have w1:IntKind.i64.wrap ((i:Int)+(j:Int))=((i+j:Nat):Int):=by rw [wid _ (by omega) (by omega)];omega
 have w2:IntKind.i64.wrap (((i+j:Nat):Int)-1)=((i+j:Nat):Int)-1:=wid _ (by omega) (by omega)
 (repeat (first|((with_reducible refine rC rfl fun K hK=>?_);simp only [go_sem,seval,↓reduceIte,w1,w2];refine hK _ _ _ ?_;clear hK K)|refine sT ?_))
 refine AWP.loop (fun k:Nat=>[(12,⟨0,.val (.int .i64 k)⟩),(11,⟨0,.val (.int .i64 (((i+j:Nat):Int)-1))⟩),(7,⟨0,.val (.int .i64 (p^k:Nat))⟩),(0,⟨0,.val (.int .i64 i)⟩),(1,⟨0,.val (.int .i64 j)⟩),(2,⟨0,.val (.fptr (.int .i64 p))⟩),(3,⟨0,.val (.fptr (.agg [.int .i64 w,.sl false 27 (rowsF G)]))⟩)]) (fun k=>k≤i+j-1) (fun k=>i+j-1-k) 0 (Nat.zero_le _) (fun k=>rfl) ?_ (fun k hk=>?_)
 ·simp [Sub,lk]
 ·have hpk : p ^ k ≤ 40353607 := by
   have h1:p^k≤7^k:=Nat.pow_le_pow_left hp2 k
   have h2:7^k≤7^9:=Nat.pow_le_pow_right (by omega) (by omega)
   omega
  have hpk1:1≤p^k:=Nat.pow_pos (by omega)
  by_cases h:k<i+j-1
  ·have hps:p^(k+1)=p^k*p:=Nat.pow_succ ..
   have hm7:p^k*p≤40353607*7:=Nat.mul_le_mul hpk hp2
   have w3:IntKind.i64.wrap (((p^k:Nat):Int)*(p:Int))=((p^(k+1):Nat):Int):=by
    rw [hps,Int.natCast_mul,wid _ (by rw [← Int.natCast_mul];omega) (by rw [← Int.natCast_mul];omega)]
   have zq1:(k:Int)<((i+j:Nat):Int)-1:=(by omega);have zq2:=wid ((k:Int)+1) (by omega) (by omega)
   (repeat (first|((with_reducible refine rC rfl fun K hK=>?_);simp only [go_sem,seval,↓reduceIte,zq1,w3,zq2];refine hK _ _ _ ?_;clear hK K)|refine sT ?_))
   exact ⟨k+1,by omega,by omega,by simp [Sub,lk]⟩
  ·obtain rfl:k=i+j-1:=by omega
   have hn:=hG.num i j
   have r1:=hG.row i (by omega)
   have hq:=Int.ediv_le_self ((p^(i+j-1):Nat):Int) hn.1
   have hq0:=Int.ediv_nonneg hn.1 (show (0:Int)≤((p^(i+j-1):Nat):Int) by omega)
   have td:(pc G i j).tdiv ((p^(i+j-1):Nat):Int)=pc G i j/((p^(i+j-1):Nat):Int):=Int.tdiv_eq_ediv_of_nonneg hn.1
   have zq3:¬ (((i+j-1:Nat):Nat):Int)<((i+j:Nat):Int)-1:=(by omega);have zq4:=Ad G i (by rw [hG.len];omega);have zq5:(i:Int)<((d+1:Nat):Int):=(by omega);have zq6:=Ac (G.getD i []) j (by omega);have zq7:(j:Int)<((d+1-i:Nat):Int):=(by omega);have zq8:(G.getD i []).getD j 0=pc G i j:=rfl;have zq9:((p^(i+j-1):Nat):Int)≠0:=(by omega);have zq10:=wid (pc G i j/((p^(i+j-1):Nat):Int)) (by omega) (by omega)
   (repeat (first|((with_reducible refine rC rfl fun K hK=>?_);simp only [go_sem,seval,↓reduceIte,zq3,zq4,Aa,hG.len,Int.toNat_natCast,Int.natCast_nonneg,zq5,zq6,r1,zq7,zq8,td,zq9,zq10];refine hK _ _ _ ?_;clear hK K)|refine sT ?_))
   refine rt1 ?_
   rw [Int.natCast_pow]
end Go.Proofs.YtapdekacpecgiaaGreat

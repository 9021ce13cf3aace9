import Derived.Test.YtapdekacpecgiaaGreatTac
namespace Go.Proofs.YtapdekacpecgiaaGreat
open Go.RowKit
set_option linter.unusedSimpArgs false
set_option linter.unusedVariables false
set_option linter.unusedSectionVars false
set_option maxRecDepth 20000
set_option maxHeartbeats 1000000
theorem wid (x:Int) (h1 : -9223372036854775808≤x) (h2:x≤9223372036854775807):IntKind.i64.wrap x=x:=Akf x h1 h2
theorem Hr (l:List Int) (i:Nat) (h:i<l.length):l.getD i 0=l[i]:=by
 rw [List.getD_eq_getElem?_getD];simp [h]
theorem Cw (x a b:Int):AFn Tryz.prog 98 [.int .i64 x,.int .i64 a,.int .i64 b] (.bool (decide (a≤x)&&decide (x≤b))):=by
 refine fO Tryz.func98 Tryz.ntmps98 (by rw [Tryz.results98]) fun C hP hM hC=>?_
 by_cases h:a≤x
 ·(repeat (first|((with_reducible refine rC rfl fun K hK=>?_);simp only [go_sem,seval,↓reduceIte,h];refine hK _ _ _ ?_;clear hK K)|refine sT ?_))
  refine rt1 ?_
  simp [h]
 ·(repeat (first|((with_reducible refine rC rfl fun K hK=>?_);simp only [go_sem,seval,↓reduceIte,h];refine hK _ _ _ ?_;clear hK K)|refine sT ?_))
  refine rt1 ?_
  simp [h]
theorem Cl (x a b:Int):AFn Tryz.prog 101 [.int .i64 x,.int .i64 a,.int .i64 b] (.bool (decide (a≤x)&&decide (x≤b))):=by
 refine fO Tryz.func101 Tryz.ntmps101 (by rw [Tryz.results101]) fun C hP hM hC=>?_
 by_cases h:a≤x
 ·(repeat (first|((with_reducible refine rC rfl fun K hK=>?_);simp only [go_sem,seval,↓reduceIte,h];refine hK _ _ _ ?_;clear hK K)|refine sT ?_))
  refine rt1 ?_
  simp [h]
 ·(repeat (first|((with_reducible refine rC rfl fun K hK=>?_);simp only [go_sem,seval,↓reduceIte,h];refine hK _ _ _ ?_;clear hK K)|refine sT ?_))
  refine rt1 ?_
  simp [h]
theorem Bz (x:Int):AFn Tryz.prog 183 [.int .i64 x] (.bool (decide (2≤x)&&decide (x≤10000))):=by
 refine fO Tryz.func183 Tryz.ntmps183 (by rw [Tryz.results183]) fun C hP hM hC=>?_
 (repeat (first|((with_reducible refine rC rfl fun K hK=>?_);simp only [go_sem,seval,↓reduceIte];(first|refine hK _ _ _ ?_|refine ⟨_,Cw _ _ _,hK _ _ _ ?_⟩);clear hK K)|refine sT ?_))
 refine rt1 ?_
 rfl
theorem Dk (x:Int):AFn Tryz.prog 109 [.int .i64 x] (.bool (decide (2≤x)&&decide (x≤10000))):=by
 refine fO Tryz.func109 Tryz.ntmps109 (by rw [Tryz.results109]) fun C hP hM hC=>?_
 (repeat (first|((with_reducible refine rC rfl fun K hK=>?_);simp only [go_sem,seval,↓reduceIte];(first|refine hK _ _ _ ?_|refine ⟨_,Cl _ _ _,hK _ _ _ ?_⟩);clear hK K)|refine sT ?_))
 refine rt1 ?_
 rfl
def isNum (m a:Int):Bool:=decide (0≤a)&&decide (a≤m-1)
theorem Dx (a m:Int) (h1 : -9000000000000000000≤m) (h2:m≤9000000000000000000):AFn Tryz.prog 126 [.int .i64 a,.int .i64 m] (.bool (isNum m a)):=by
 refine fO Tryz.func126 Tryz.ntmps126 (by rw [Tryz.results126]) fun C hP hM hC=>?_
 (repeat (first|((with_reducible refine rC rfl fun K hK=>?_);simp only [go_sem,seval,↓reduceIte,wid (m-1) (by omega) (by omega)];(first|refine hK _ _ _ ?_|refine ⟨_,Cw _ _ _,hK _ _ _ ?_⟩);clear hK K)|refine sT ?_))
 refine rt1 ?_
 rfl
theorem Bb (m:Int) (l:List Int) (hl:l.length≤1099511627776):AFn Tryz.prog 152 [.agg [.int .i64 m,.sl false 2 (intL l)]] (.int .i64 ((l.length:Int)-1)):=by
 refine fO Tryz.func152 Tryz.ntmps152 (by rw [Tryz.results152]) fun C hP hM hC=>?_
 (repeat (first|((with_reducible refine rC rfl fun K hK=>?_);simp only [go_sem,seval,↓reduceIte,wid ((l.length:Int)-1) (by omega) (by omega)];refine hK _ _ _ ?_;clear hK K)|refine sT ?_))
 refine rt1 ?_
 rfl
def idxOf (p:Int→Bool) (l:List Int):Int:=match l.findIdx? p with
 | some i=>i
 | none=>-1
theorem Z2 {p:Int→Bool} {l:List Int} {i:Nat} (h:i<l.length) (h1:p (l.getD i 0)=true) (h2:∀ j,j<i→p (l.getD j 0)=false):idxOf p l=i:=by
 have:l.findIdx? p=some i:=by
  rw [List.findIdx?_eq_some_iff_getElem]
  refine ⟨h,by rw [← Hr l i h];exact h1,fun j hj=>?_⟩
  rw [← Hr l j (by omega),h2 j hj]
  simp
 simp [idxOf,this]
theorem Zh {p:Int→Bool} {l:List Int} (h2:∀ j,j<l.length→p (l.getD j 0)=false):idxOf p l = -1:=by
 have:l.findIdx? p=none:=by
  rw [List.findIdx?_eq_none_iff]
  intro x hx
  obtain ⟨j,hj,rfl⟩:=List.getElem_of_mem hx
  rw [← Hr l j hj]
  exact h2 j hj
 simp [idxOf,this]
theorem Akn (p q:Int→Bool) (l:List Int) (hq:∀ v∈l,q v=p v):decide (0≤idxOf q l)=l.any p:=by
 unfold idxOf
 cases h:l.findIdx? q with
 | none=>
  rw [List.findIdx?_eq_none_iff] at h
  have:l.any p=false:=by
   rw [List.any_eq_false]
   intro x hx
   rw [← hq x hx,h x hx];simp
  simp [this]
 | some i=>
  rw [List.findIdx?_eq_some_iff_getElem] at h
  obtain ⟨hi,h1,_⟩:=h
  have:l.any p=true:=by
   rw [List.any_eq_true]
   exact ⟨l[i],by simp,by rw [← hq _ (by simp)];exact h1⟩
  rw [this];simp
theorem F9 (l:List Int) (hl:l.length≤1099511627776) (g:FuncId) (ys:List T) (hgl:g<1000000) (hg:md g=[]) (hy:T.pureL ys=true) (hv:∀ c:List T→Rd,resolveL ys c=c ys) (p:Int→Bool) (hp:∀ v∈l,AFn Tryz.prog g ((.int .i64 v)::ys) (.bool (p v))):AFn Tryz.prog 262 [.sl false 2 (intL l),.fn g ys] (.int .i64 (idxOf p l)):=by
 have hg':=hg
 unfold md at hg'
 have hZ:T.freezeL ys=ys:=B5 ys hy
 have hR:T.refFreeL ys=true:=Bo ys hy
 have hN:T.noOwnL ys=true:=B9 ys hy
 refine AFn.of' ttOk (by decide) Tryz.func262 Tryz.ntmps262 (by rw [Tryz.results262]) (by rfl) (by rfl) (by simp) (by decide) (by simp only [go_sem,Nat.reduceAdd,↓reduceIte,hN];rfl) mixed (fun C hP hM hC=>?_)
 have hQ:∀ S,T.refsInL S ys=true:=fun S=>D3 S ys hy
 (repeat (first|((with_reducible refine rC rfl fun K hK=>?_);simp only [go_sem,seval,↓reduceIte,hR,hN];refine hK _ _ _ ?_;clear hK K)|refine sT ?_))
 refine AWP.loop (fun i:Nat=>[(8,⟨0,.val (.int .i64 i)⟩),(7,⟨0,.val (.int .i64 l.length)⟩),(0,⟨0,.val (.sl false 2 (intL l))⟩),(1,⟨0,.val (.fn g ys)⟩)]) (fun i=>i≤l.length∧∀ j,j<i→p (l.getD j 0)=false) (fun i=>l.length-i) 0 ⟨Nat.zero_le _,fun j hj=>by omega⟩ (fun i=>by simp [refsOk,SV.refsIn,T.refsIn,hQ]) ?_ (fun i hi=>?_)
 ·simp [Sub,lk]
 ·(repeat (first|((with_reducible refine rC rfl fun K hK=>?_);simp only [go_sem,seval,↓reduceIte];refine hK _ _ _ ?_;clear hK K)|refine sT ?_))
  refine AWP.cond (by decide) rfl (fun h=>?_) (fun h=>?_)
  ·have hlt:i<l.length:=by simpa using h
   have hI:(i:Int)<(l.length:Int):=by omega
   (repeat (first|((with_reducible refine rC rfl fun K hK=>?_);simp only [go_sem,seval,↓reduceIte,Ac l i hlt,Int.toNat_natCast,Int.natCast_nonneg,hI,hR,hN,hZ,hv,hg',hgl];(first|refine hK _ _ _ ?_|refine ⟨_,hp (l.getD i 0) (by rw [List.getD_eq_getElem?_getD];simp [hlt]),hK _ _ _ ?_⟩);clear hK K)|refine sT ?_))
   refine AWP.cond (by decide) rfl (fun h=>?_) (fun h=>?_)
   ·(repeat (first|((with_reducible refine rC rfl fun K hK=>?_);simp only [go_sem,seval,↓reduceIte];refine hK _ _ _ ?_;clear hK K)|refine sT ?_))
    refine rt1 ?_
    rw [Z2 hlt h hi.2]
   ·(repeat (first|((with_reducible refine rC rfl fun K hK=>?_);simp only [go_sem,seval,↓reduceIte,wid ((i:Int)+1) (by omega) (by omega)];refine hK _ _ _ ?_;clear hK K)|refine sT ?_))
    refine ⟨i+1,⟨by omega,fun j hj=>?_⟩,by omega,?_⟩
    ·by_cases e:j=i
     ·rw [e];exact h
     ·exact hi.2 j (by omega)
    ·simp [Sub,lk]
  ·have hge : i = l.length := by
     have:¬ ((i:Int)<l.length):=by simpa using h
     omega
   (repeat (first|((with_reducible refine rC rfl fun K hK=>?_);simp only [go_sem,seval,↓reduceIte];refine hK _ _ _ ?_;clear hK K)|refine sT ?_))
   refine rt1 ?_
   rw [Zh (fun j hj=>hi.2 j (by omega))]
theorem Fh (l:List Int) (hl:l.length≤1099511627776) (g:FuncId) (ys:List T) (hgl:g<1000000) (hg:md g=[]) (hy:T.pureL ys=true) (hv:∀ c:List T→Rd,resolveL ys c=c ys) (p:Int→Bool) (hp:∀ v∈l,AFn Tryz.prog g ((.int .i64 v)::ys) (.bool (p v))):AFn Tryz.prog 237 [.sl false 2 (intL l),.fn g ys] (.bool (l.any p)):=by
 have hg':=hg
 unfold md at hg'
 have hZ:T.freezeL ys=ys:=B5 ys hy
 have hR:T.refFreeL ys=true:=Bo ys hy
 have hN:T.noOwnL ys=true:=B9 ys hy
 refine AFn.of' ttOk (by decide) Tryz.func237 Tryz.ntmps237 (by rw [Tryz.results237]) (by rfl) (by rfl) (by simp) (by decide) (by simp only [go_sem,Nat.reduceAdd,↓reduceIte,hN];rfl) mixed (fun C hP hM hC=>?_)
 (repeat (first|((with_reducible refine rC rfl fun K hK=>?_);simp only [go_sem,seval,↓reduceIte,hR,hN,hZ,hv,hg',hgl];(first|refine hK _ _ _ ?_|refine ⟨_,F9 l hl g ys hgl hg hy hv p hp,hK _ _ _ ?_⟩);clear hK K)|refine sT ?_))
 refine rt1 ?_
 rw [Akn p p l (fun _ _=>rfl)]
theorem Sb {p:Int→Bool} {l:List Int} (h:∀ j,j<l.length→p (l.getD j 0)=true):l.all p=true:=by
 rw [List.all_eq_true]
 intro x hx
 obtain ⟨j,hj,rfl⟩:=List.getElem_of_mem hx
 rw [← Hr l j hj]
 exact h j hj
theorem Akm {p:Int→Bool} {l:List Int} {i:Nat} (h:i<l.length) (h2:p (l.getD i 0)=false):l.all p=false:=by
 rw [List.all_eq_false]
 exact ⟨l[i],by simp,by rw [← Hr l i h,h2];simp⟩
theorem Mo (x:Int) (g:FuncId) (ys:List T) (hgl:g<1000000) (hg:md g=[]) (hy:T.pureL ys=true) (hv:∀ c:List T→Rd,resolveL ys c=c ys) (b:Bool) (h:AFn Tryz.prog g ((.int .i64 x)::ys) (.bool b)):AFn Tryz.prog 238 [.int .i64 x,.fptr (.fn g ys)] (.bool (!b)):=by
 have hg':=hg
 unfold md at hg'
 have hZ:T.freezeL ys=ys:=B5 ys hy
 have hR:T.refFreeL ys=true:=Bo ys hy
 have hN:T.noOwnL ys=true:=B9 ys hy
 refine AFn.of' ttOk (by decide) Tryz.func238 Tryz.ntmps238 (by rw [Tryz.results238]) (by rfl) (by rfl) (by simp) (by decide) (by simp only [go_sem,Nat.reduceAdd,↓reduceIte,hN];rfl) mixed (fun C hP hM hC=>?_)
 (repeat (first|((with_reducible refine rC rfl fun K hK=>?_);simp only [go_sem,seval,↓reduceIte,hR,hN,hZ,hv,hg',hgl];(first|refine hK _ _ _ ?_|refine ⟨_,h,hK _ _ _ ?_⟩);clear hK K)|refine sT ?_))
 refine rt1 ?_
 rfl
theorem Ec (l:List Int) (hl:l.length≤1099511627776) (g:FuncId) (ys:List T) (hgl:g<1000000) (hg:md g=[]) (hy:T.pureL ys=true) (hv:∀ c:List T→Rd,resolveL ys c=c ys) (p:Int→Bool) (h:∀ x∈l,AFn Tryz.prog g ((.int .i64 x)::ys) (.bool (p x))):AFn Tryz.prog 184 [.sl false 2 (intL l),.fn g ys] (.bool (l.all p)):=by
 have hg':=hg
 unfold md at hg'
 have hZ:T.freezeL ys=ys:=B5 ys hy
 have hR:T.refFreeL ys=true:=Bo ys hy
 have hN:T.noOwnL ys=true:=B9 ys hy
 refine AFn.of' ttOk (by decide) Tryz.func184 Tryz.ntmps184 (by rw [Tryz.results184]) (by rfl) (by rfl) (by simp) (by decide) (by simp only [go_sem,Nat.reduceAdd,↓reduceIte,hN];rfl) mixed (fun C hP hM hC=>?_)
 (repeat (first|((with_reducible refine rC rfl fun K hK=>?_);simp only [go_sem,seval,↓reduceIte,hR,hN,hZ,hv,hg',hgl,hy];(first|refine hK _ _ _ ?_|refine ⟨_,Fh l hl 238 [.fptr (.fn g ys)] (by decide) (by rfl) (by simp [T.pureL,T.pure,hy]) (fun c=>rfl) (fun x=>!p x) (fun x hx=>Mo x g ys hgl hg hy hv (p x) (h x hx)),hK _ _ _ ?_⟩);clear hK K)|refine sT ?_))
 refine rt1 ?_
 rw [List.all_eq_not_any_not]
theorem E6 (m:Int) (l:List Int) (hl:l.length≤1099511627776) (h1 : -9000000000000000000≤m) (h2:m≤9000000000000000000):AFn Tryz.prog 188 [.int .i64 m,.sl false 2 (intL l)] (.bool (l.all (isNum m))):=by
 refine fO Tryz.func188 Tryz.ntmps188 (by rw [Tryz.results188]) fun C hP hM hC=>?_
 (repeat (first|((with_reducible refine rC rfl fun K hK=>?_);simp only [go_sem,seval,↓reduceIte];refine hK _ _ _ ?_;clear hK K)|refine sT ?_))
 refine AWP.loop (fun i:Nat=>[(5,⟨0,.val (.int .i64 i)⟩),(0,⟨0,.val (.int .i64 m)⟩),(1,⟨0,.val (.sl false 2 (intL l))⟩)]) (fun i=>i≤l.length∧∀ j,j<i→isNum m (l.getD j 0)=true) (fun i=>l.length-i) 0 ⟨Nat.zero_le _,fun j hj=>by omega⟩ (fun i=>rfl) ?_ (fun i hi=>?_)
 ·simp [Sub,lk]
 ·(repeat (first|((with_reducible refine rC rfl fun K hK=>?_);simp only [go_sem,seval,↓reduceIte];refine hK _ _ _ ?_;clear hK K)|refine sT ?_))
  refine AWP.cond (by decide) rfl (fun h=>?_) (fun h=>?_)
  ·have hlt:i<l.length:=by simpa using h
   have hI:(i:Int)<(l.length:Int):=by omega
   (repeat (first|((with_reducible refine rC rfl fun K hK=>?_);simp only [go_sem,seval,↓reduceIte,Ac l i hlt,Int.toNat_natCast,Int.natCast_nonneg,hI,wid (m-1) (by omega) (by omega)];(first|refine hK _ _ _ ?_|refine ⟨_,Cl _ _ _,hK _ _ _ ?_⟩);clear hK K)|refine sT ?_))
   refine AWP.cond (by decide) rfl (fun h=>?_) (fun h=>?_)
   ·(repeat (first|((with_reducible refine rC rfl fun K hK=>?_);simp only [go_sem,seval,↓reduceIte];refine hK _ _ _ ?_;clear hK K)|refine sT ?_))
    refine rt1 ?_
    rw [Akm hlt (by simpa only [isNum,Bool.not_eq_eq_eq_not,Bool.not_true] using h)]
   ·(repeat (first|((with_reducible refine rC rfl fun K hK=>?_);simp only [go_sem,seval,↓reduceIte,wid ((i:Int)+1) (by omega) (by omega)];refine hK _ _ _ ?_;clear hK K)|refine sT ?_))
    refine ⟨i+1,⟨by omega,fun j hj=>?_⟩,by omega,?_⟩
    ·by_cases e:j=i
     ·rw [e];simpa only [isNum,Bool.not_eq_eq_eq_not,Bool.not_false] using h
     ·exact hi.2 j (by omega)
    ·simp [Sub,lk]
  ·have hge : i = l.length := by
     have:¬ ((i:Int)<l.length):=by simpa using h
     omega
   (repeat (first|((with_reducible refine rC rfl fun K hK=>?_);simp only [go_sem,seval,↓reduceIte];refine hK _ _ _ ?_;clear hK K)|refine sT ?_))
   refine rt1 ?_
   rw [Sb (fun j hj=>hi.2 j (by omega))]
def isSer (m:Int) (l:List Int):Bool:=decide (2≤m)&&decide (m≤10000)&&(decide (1≤(l.length:Int)-1)&&decide ((l.length:Int)-1≤10))&&l.all (isNum m)
theorem Mu {m:Int} {l:List Int} (h:isSer m l=true):2≤l.length∧l.length≤11∧2≤m∧m≤10000∧∀ x∈l,0≤x∧x≤m-1:=by
 simp only [isSer,Bool.and_eq_true,decide_eq_true_eq,List.all_eq_true,isNum] at h
 obtain ⟨⟨⟨h1,h2⟩,h3,h4⟩,h5⟩:=h
 exact ⟨by omega,by omega,h1,h2,h5⟩
theorem Nk (x m:Int) (l:List Int) (h1 : -9000000000000000000≤m) (h2:m≤9000000000000000000):AFn Tryz.prog 185 [.int .i64 x,.fptr (.agg [.int .i64 m,.sl false 2 (intL l)])] (.bool (isNum m x)):=by
 refine fO Tryz.func185 Tryz.ntmps185 (by rw [Tryz.results185]) fun C hP hM hC=>?_
 (repeat (first|((with_reducible refine rC rfl fun K hK=>?_);simp only [go_sem,seval,↓reduceIte];(first|refine hK _ _ _ ?_|refine ⟨_,Dx _ _ h1 h2,hK _ _ _ ?_⟩);clear hK K)|refine sT ?_))
 refine rt1 ?_
 rfl
theorem F5 (m:Int) (l:List Int) (hl:l.length≤1099511627776):AFn Tryz.prog 80 [.agg [.int .i64 m,.sl false 2 (intL l)]] (.bool (isSer m l)):=by
 refine fO Tryz.func80 Tryz.ntmps80 (by rw [Tryz.results80]) fun C hP hM hC=>?_
 (repeat (first|((with_reducible refine rC rfl fun K hK=>?_);simp only [go_sem,seval,↓reduceIte];(first|refine hK _ _ _ ?_|refine ⟨_,Bz _,hK _ _ _ ?_⟩);clear hK K)|refine sT ?_))
 cases hm:(decide (2≤m)&&decide (m≤10000)) with
 | false=>
  (repeat (first|((with_reducible refine rC rfl fun K hK=>?_);simp only [go_sem,seval,↓reduceIte,hm];refine hK _ _ _ ?_;clear hK K)|refine sT ?_))
  refine rt1 ?_
  simp [isSer,hm]
 | true=>
  have hm2:2≤m∧m≤10000:=by simpa using hm
  (repeat (first|((with_reducible refine rC rfl fun K hK=>?_);simp only [go_sem,seval,↓reduceIte,hm];(first|refine hK _ _ _ ?_|refine ⟨_,Cw _ _ _,hK _ _ _ ?_⟩|refine ⟨_,Bb m l hl,hK _ _ _ ?_⟩);clear hK K)|refine sT ?_))
  cases hd:(decide (1≤(l.length:Int)-1)&&decide ((l.length:Int)-1≤10)) with
  | false=>
   (repeat (first|((with_reducible refine rC rfl fun K hK=>?_);simp only [go_sem,seval,↓reduceIte,hm,hd];refine hK _ _ _ ?_;clear hK K)|refine sT ?_))
   refine rt1 ?_
   simp [isSer,hm,hd]
  | true=>
   (repeat (first|((with_reducible refine rC rfl fun K hK=>?_);simp only [go_sem,seval,↓reduceIte,hm,hd];(first|refine hK _ _ _ ?_|refine ⟨_,Ec l hl 185 [.fptr (.agg [.int .i64 m,.sl false 2 (intL l)])] (by decide) (by rfl) (by simp [T.pureL,T.pure,Fs]) (fun c=>rfl) (isNum m) (fun x hx=>Nk x m l (by omega) (by omega)),hK _ _ _ ?_⟩);clear hK K)|refine sT ?_))
   refine rt1 ?_
   simp [isSer,hm,hd]
end Go.Proofs.YtapdekacpecgiaaGreat

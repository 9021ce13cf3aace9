import Derived.Test.YtapdekacpecgiaaGreatKh
import Derived.Test.YtapdekacpecgiaaGreatQa
namespace Go.Proofs.YtapdekacpecgiaaGreat
open Go.RowKit
set_option linter.unusedSimpArgs false
set_option linter.unusedVariables false
set_option linter.unusedSectionVars false
set_option maxRecDepth 20000
set_option maxHeartbeats 1000000
def cuB (m:Int) (n:Nat) (m2:Int) (l:List Int):Bool:=decide (m=m2∧n=l.length)&&(l.getD 0 0==0)
theorem Nv (m m2:Int) (ll:List (List Int)) (l:List Int) (ha:ll.length≤1099511627776) (hb:l.length≤1099511627776):AFn Tryz.prog 90 [.agg [.int .i64 m,.sl false 27 (rowsF ll)],.agg [.int .i64 m2,.sl false 2 (intL l)]] (.bool (decide (m=m2∧ll.length=l.length))):=by
 refine fO Tryz.func90 Tryz.ntmps90 (by rw [Tryz.results90]) fun C hP hM hC=>?_
 have hD1:=A3 m ll ha
 have hD2:=Bb m2 l hb
 by_cases h:m=m2
 ·have b1:(m==m2)=true:=by simp [h]
  by_cases h2:ll.length=l.length
  ·(repeat (first|((with_reducible refine rC rfl fun K hK=>?_);simp only [go_sem,seval,↓reduceIte,b1,show (((ll.length:Int)-1)==((l.length:Int)-1))=true by rw [beq_iff_eq];omega];(first|refine hK _ _ _ ?_|refine ⟨_,hD1,hK _ _ _ ?_⟩|refine ⟨_,hD2,hK _ _ _ ?_⟩);clear hK K)|refine sT ?_))
   refine rt1 ?_
   rw [decide_eq_true ⟨h,h2⟩]
  ·(repeat (first|((with_reducible refine rC rfl fun K hK=>?_);simp only [go_sem,seval,↓reduceIte,b1,show (((ll.length:Int)-1)==((l.length:Int)-1))=false by rw [beq_eq_false_iff_ne];omega];(first|refine hK _ _ _ ?_|refine ⟨_,hD1,hK _ _ _ ?_⟩|refine ⟨_,hD2,hK _ _ _ ?_⟩);clear hK K)|refine sT ?_))
   refine rt1 ?_
   rw [decide_eq_false (fun e=>h2 e.2)]
 ·have b1:(m==m2)=false:=by simp [h]
  (repeat (first|((with_reducible refine rC rfl fun K hK=>?_);simp only [go_sem,seval,↓reduceIte,b1];(first|refine hK _ _ _ ?_|refine ⟨_,hD1,hK _ _ _ ?_⟩|refine ⟨_,hD2,hK _ _ _ ?_⟩);clear hK K)|refine sT ?_))
  refine rt1 ?_
  rw [decide_eq_false (fun e=>h e.1)]
theorem Fq (m m2:Int) (ll:List (List Int)) (l:List Int) (ha:ll.length≤1099511627776) (hb:l.length≤1099511627776) (h0:0<l.length):AFn Tryz.prog 148 [.agg [.int .i64 m,.sl false 27 (rowsF ll)],.agg [.int .i64 m2,.sl false 2 (intL l)]] (.bool (cuB m ll.length m2 l)):=by
 refine fO Tryz.func148 Tryz.ntmps148 (by rw [Tryz.results148]) fun C hP hM hC=>?_
 have hF:=Nv m m2 ll l ha hb
 cases h1:decide (m=m2∧ll.length=l.length) with
 | false=>
  (repeat (first|((with_reducible refine rC rfl fun K hK=>?_);simp only [go_sem,seval,↓reduceIte,h1];(first|refine hK _ _ _ ?_|refine ⟨_,hF,hK _ _ _ ?_⟩);clear hK K)|refine sT ?_))
  refine rt1 ?_
  simp only [cuB,h1];rfl
 | true=>
  (repeat (first|((with_reducible refine rC rfl fun K hK=>?_);simp only [go_sem,seval,↓reduceIte,h1,Ac l 0 h0,Int.toNat_zero,Int.le_refl,show (0:Int)<(l.length:Int) by omega];(first|refine hK _ _ _ ?_|refine ⟨_,hF,hK _ _ _ ?_⟩);clear hK K)|refine sT ?_))
  refine rt1 ?_
  simp only [cuB,h1];rfl
theorem Cf (m:Int) (l:List Int) (f:FuncId) (ys:List T) (hy:T.pureL ys=true) (g:FuncId) (a:List T) (hg2:md g=[]) (hg3:g<1000000) (b:Bool) (h:AFn Tryz.prog g a (.bool b)) (hf:g=f∧a=(.agg [.int .i64 m,.sl false 2 (intL l)])::ys) (hv:∀ c:List T→Rd,resolveL ys c=c ys):AFn Tryz.prog 272 [.sl false 29 [.agg [.int .i64 m,.sl false 2 (intL l)]],.fn f ys] (.int .i64 (if b then 0 else -1)):=by
 obtain ⟨hf1,hf2⟩:=hf
 subst hf1;subst hf2
 have hg':=hg2
 unfold md at hg'
 have hZ:T.freezeL ys=ys:=Bx ys hy
 have hR:T.refFreeL ys=true:=Bk ys hy
 have hN:T.noOwnL ys=true:=B3 ys hy
 refine AFn.of' ttOk (by decide) Tryz.func272 Tryz.ntmps272 (by rw [Tryz.results272]) (by rfl) (by rfl) (by simp) (by decide) (by simp only [go_sem,Nat.reduceAdd,↓reduceIte,hN];rfl) mixed (fun C hP hM hC=>?_)
 have hQ:∀ S,T.refsInL S ys=true:=fun S=>Eh S ys hy
 (repeat (first|((with_reducible refine rC rfl fun K hK=>?_);simp only [go_sem,seval,↓reduceIte,hR,hN,List.length_cons,List.length_nil,Nat.zero_add,Int.natCast_one];refine hK _ _ _ ?_;clear hK K)|refine sT ?_))
 refine AWP.loop (fun i:Nat=>[(8,⟨0,.val (.int .i64 i)⟩),(7,⟨0,.val (.int .i64 1)⟩),(0,⟨0,.val (.sl false 29 [.agg [.int .i64 m,.sl false 2 (intL l)]])⟩),(1,⟨0,.val (.fn g ys)⟩)]) (fun i=>i≤1∧(i=1→b=false)) (fun i=>1-i) 0 ⟨Nat.zero_le _,fun e=>by omega⟩ (fun i=>by simp [refsOk,SV.refsIn,T.refsIn,hQ,T.refsInL,E6]) ?_ (fun i hi=>?_)
 ·simp [Sub,lk]
 ·by_cases hz:i=0
  ·subst hz
   cases b with
   | true=>
    (repeat (first|((with_reducible refine rC rfl fun K hK=>?_);simp only [go_sem,seval,↓reduceIte,hR,hN,hZ,hv,hg',hg3,Int.natCast_zero,show (0:Int)<1 by decide,List.length_cons,List.length_nil,Nat.zero_add,Int.natCast_one,Int.toNat_zero,Int.le_refl,List.getD_cons_zero];(first|refine hK _ _ _ ?_|refine ⟨_,h,hK _ _ _ ?_⟩);clear hK K)|refine sT ?_))
    refine rt1 ?_
    rfl
   | false=>
    (repeat (first|((with_reducible refine rC rfl fun K hK=>?_);simp only [go_sem,seval,↓reduceIte,hR,hN,hZ,hv,hg',hg3,Int.natCast_zero,show (0:Int)<1 by decide,List.length_cons,List.length_nil,Nat.zero_add,Int.natCast_one,Int.toNat_zero,Int.le_refl,List.getD_cons_zero,show IntKind.i64.wrap ((0:Int)+1)=1 from rfl];(first|refine hK _ _ _ ?_|refine ⟨_,h,hK _ _ _ ?_⟩);clear hK K)|refine sT ?_))
    exact ⟨1,⟨Nat.le_refl _,fun _=>by simp⟩,by omega,by simp [Sub,lk,show IntKind.i64.wrap 1=1 by decide]⟩
  ·have e:i=1:=by omega
   subst e
   (repeat (first|((with_reducible refine rC rfl fun K hK=>?_);simp only [go_sem,seval,↓reduceIte,Int.natCast_one,show ¬ (1:Int)<1 by decide];refine hK _ _ _ ?_;clear hK K)|refine sT ?_))
   refine rt1 ?_
   rw [hi.2 rfl];rfl
theorem B7 (m:Int) (l:List Int) (g:FuncId) (ys:List T) (hgl:g<1000000) (hg:md g=[]) (hy:T.pureL ys=true) (hv:∀ c:List T→Rd,resolveL ys c=c ys) (b:Bool) (h:AFn Tryz.prog g ((.agg [.int .i64 m,.sl false 2 (intL l)])::ys) (.bool b)):AFn Tryz.prog 260 [.sl false 29 [.agg [.int .i64 m,.sl false 2 (intL l)]],.fn g ys] (.bool b):=by
 have hg':=hg
 unfold md at hg'
 have hZ:T.freezeL ys=ys:=Bx ys hy
 have hR:T.refFreeL ys=true:=Bk ys hy
 have hN:T.noOwnL ys=true:=B3 ys hy
 refine AFn.of' ttOk (by decide) Tryz.func260 Tryz.ntmps260 (by rw [Tryz.results260]) (by rfl) (by rfl) (by simp) (by decide) (by simp only [go_sem,Nat.reduceAdd,↓reduceIte,hN];rfl) mixed (fun C hP hM hC=>?_)
 cases b with
 | true=>
  (repeat (first|((with_reducible refine rC rfl fun K hK=>?_);simp only [go_sem,seval,↓reduceIte,hR,hN,hZ,hv,hg',hgl];(first|refine hK _ _ _ ?_|refine ⟨_,Cf m l g ys hy g _ hg hgl true h ⟨rfl,rfl⟩ hv,hK _ _ _ ?_⟩);clear hK K)|refine sT ?_))
  refine rt1 ?_
  rfl
 | false=>
  (repeat (first|((with_reducible refine rC rfl fun K hK=>?_);simp only [go_sem,seval,↓reduceIte,hR,hN,hZ,hv,hg',hgl];(first|refine hK _ _ _ ?_|refine ⟨_,Cf m l g ys hy g _ hg hgl false h ⟨rfl,rfl⟩ hv,hK _ _ _ ?_⟩);clear hK K)|refine sT ?_))
  refine rt1 ?_
  rfl
theorem Gv (m:Int) (l:List Int) (hl:l.length≤1099511627776):AFn Tryz.prog 261 [.agg [.int .i64 m,.sl false 2 (intL l)],.fptr (.fn 80 [])] (.bool (!isSer m l)):=by
 refine fO Tryz.func261 Tryz.ntmps261 (by rw [Tryz.results261]) fun C hP hM hC=>?_
 (repeat (first|((with_reducible refine rC rfl fun K hK=>?_);simp only [go_sem,seval,↓reduceIte];(first|refine hK _ _ _ ?_|refine ⟨_,I2 m l hl,hK _ _ _ ?_⟩);clear hK K)|refine sT ?_))
 refine rt1 ?_
 rfl
theorem Hs (m:Int) (l:List Int) (hl:l.length≤1099511627776):AFn Tryz.prog 236 [.sl false 29 [.agg [.int .i64 m,.sl false 2 (intL l)]],.fn 80 []] (.bool (isSer m l)):=by
 refine fO Tryz.func236 Tryz.ntmps236 (by rw [Tryz.results236]) fun C hP hM hC=>?_
 (repeat (first|((with_reducible refine rC rfl fun K hK=>?_);simp only [go_sem,seval,↓reduceIte];(first|refine hK _ _ _ ?_|refine ⟨_,B7 m l 261 [.fptr (.fn 80 [])] (by decide) (by rfl) (by rfl) (fun c=>rfl) (!isSer m l) (Gv m l hl),hK _ _ _ ?_⟩);clear hK K)|refine sT ?_))
 refine rt1 ?_
 rw [Bool.not_not]
theorem G7 (m m2:Int) (ll:List (List Int)) (l:List Int) (ha:ll.length≤1099511627776) (hl:l.length≤1099511627776) (h0:0<l.length):AFn Tryz.prog 261 [.agg [.int .i64 m2,.sl false 2 (intL l)],.fptr (.fn 1000148 [.agg [.int .i64 m,.sl false 27 (rowsF ll)]])] (.bool (!cuB m ll.length m2 l)):=by
 refine fO Tryz.func261 Tryz.ntmps261 (by rw [Tryz.results261]) fun C hP hM hC=>?_
 (repeat (first|((with_reducible refine rC rfl fun K hK=>?_);simp only [go_sem,seval,↓reduceIte];(first|refine hK _ _ _ ?_|refine ⟨_,Fq m m2 ll l ha hl h0,hK _ _ _ ?_⟩);clear hK K)|refine sT ?_))
 refine rt1 ?_
 rfl
theorem Hu (m m2:Int) (ll:List (List Int)) (l:List Int) (ha:ll.length≤1099511627776) (hl:l.length≤1099511627776) (h0:0<l.length):AFn Tryz.prog 236 [.sl false 29 [.agg [.int .i64 m2,.sl false 2 (intL l)]],.fn 1000148 [.agg [.int .i64 m,.sl false 27 (rowsF ll)]]] (.bool (cuB m ll.length m2 l)):=by
 refine fO Tryz.func236 Tryz.ntmps236 (by rw [Tryz.results236]) fun C hP hM hC=>?_
 (repeat (first|((with_reducible refine rC rfl fun K hK=>?_);simp only [go_sem,seval,↓reduceIte,Cm];(first|refine hK _ _ _ ?_|refine ⟨_,B7 m2 l 261 [.fptr (.fn 1000148 [.agg [.int .i64 m,.sl false 27 (rowsF ll)]])] (by decide) (by rfl) (by simp [T.pureL,T.pure,Cm]) (fun c=>rfl) (!cuB m ll.length m2 l) (G7 m m2 ll l ha hl h0),hK _ _ _ ?_⟩);clear hK K)|refine sT ?_))
 refine rt1 ?_
 rw [Bool.not_not]
noncomputable def cuC (m:Int) (ll:List (List Int)) (m2:Int) (l:List Int):Int:=if lawB m ll=true then (if isSer m2 l=true then (if cuB m ll.length m2 l=true then 0 else 2) else 1) else 1
theorem Nq (m m2:Int) (ll:List (List Int)) (l:List Int) (hs:Sm ll) (hl:l.length≤1099511627776):AFn Tryz.prog 168 [.agg [.int .i64 m,.sl false 27 (rowsF ll)],.sl false 29 [.agg [.int .i64 m2,.sl false 2 (intL l)]]] (.int .i64 (cuC m ll m2 l)):=by
 refine fO Tryz.func168 Tryz.ntmps168 (by rw [Tryz.results168]) fun C hP hM hC=>?_
 have hA:=E5 m ll hs
 have hS:=Hs m2 l hl
 cases h1:lawB m ll with
 | false=>
  (repeat (first|((with_reducible refine rC rfl fun K hK=>?_);simp only [go_sem,seval,↓reduceIte,h1];(first|refine hK _ _ _ ?_|refine ⟨_,hA,hK _ _ _ ?_⟩|refine ⟨_,hS,hK _ _ _ ?_⟩);clear hK K)|refine sT ?_))
  refine rt1 ?_
  simp [cuC,h1]
 | true=>
  cases h2:isSer m2 l with
  | false=>
   (repeat (first|((with_reducible refine rC rfl fun K hK=>?_);simp only [go_sem,seval,↓reduceIte,h1,h2];(first|refine hK _ _ _ ?_|refine ⟨_,hA,hK _ _ _ ?_⟩|refine ⟨_,hS,hK _ _ _ ?_⟩);clear hK K)|refine sT ?_))
   refine rt1 ?_
   simp [cuC,h1,h2]
  | true=>
   have hU:=Hu m m2 ll l (by have:=hs.1;omega) hl (by have:=Ga h2;omega)
   cases h3:cuB m ll.length m2 l with
   | false=>
    (repeat (first|((with_reducible refine rC rfl fun K hK=>?_);simp only [go_sem,seval,↓reduceIte,h1,h2,h3];(first|refine hK _ _ _ ?_|refine ⟨_,hA,hK _ _ _ ?_⟩|refine ⟨_,hS,hK _ _ _ ?_⟩|refine ⟨_,hU,hK _ _ _ ?_⟩);clear hK K)|refine sT ?_))
    refine rt1 ?_
    simp [cuC,h1,h2,h3]
   | true=>
    (repeat (first|((with_reducible refine rC rfl fun K hK=>?_);simp only [go_sem,seval,↓reduceIte,h1,h2,h3];(first|refine hK _ _ _ ?_|refine ⟨_,hA,hK _ _ _ ?_⟩|refine ⟨_,hS,hK _ _ _ ?_⟩|refine ⟨_,hU,hK _ _ _ ?_⟩);clear hK K)|refine sT ?_))
    refine rt1 ?_
    simp [cuC,h1,h2,h3]
end Go.Proofs.YtapdekacpecgiaaGreat

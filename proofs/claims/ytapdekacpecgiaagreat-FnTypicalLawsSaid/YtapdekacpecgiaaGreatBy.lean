import Derived.Test.YtapdekacpecgiaaGreatFin
import Derived.Test.YtapdekacpecgiaaGreatDs
import Derived.Test.YtapdekacpecgiaaGreatLc
namespace Go.Proofs.YtapdekacpecgiaaGreat
open Go.RowKit
set_option linter.unusedSimpArgs false
set_option linter.unusedVariables false
set_option linter.unusedSectionVars false
set_option maxRecDepth 20000
set_option maxHeartbeats 1000000
open Go.ChangeShapes Go.WideShapes Go.Joins Go.Deep
theorem Ahg {H : Type} {enc : TypeId × Value → H} {W : World} {t q : TypeId} {v : Value} {d : DataW H} {ps : List MemPlace} (ht : Tryz.prog.underlying t = some (.slice q)) (he : Tryz.prog.underlying q = some (.int .u8)) (hc : Tryz.prog.cellsOf q = 1)
  (hv:Value.okWide Tryz.prog W .any 0 t v) (h:DataW.Trod enc Tryz.prog W 0 (fun _=>true) true t v d ps):∃ (a:Option Addr) (c:Nat) (l:List Int),l.length≤9223372036854775807∧(∀ x∈l,0≤x∧x≤255)∧Ar W (.str (.src a c l)) v:=by
 obtain ⟨fuel,h⟩:=h
 obtain ⟨a0,len0,cap0,rfl⟩:=okWide_slice ht hv
 have hm:maxLen=9223372036854775807:=by decide
 rcases open_ints ht he hc h with ⟨h1,_⟩|⟨a,len,cap,zs,h1,_,h2,h3,h4,_,h5,h6⟩
 ·have h1' : Value.slice a0 len0 cap0 = .slice none 0 0 := by
   have h2:[Value.slice a0 len0 cap0]=[Value.slice none 0 0]:=h1
   simpa using h2
  rw [h1']
  refine ⟨none,0,[],by simp,fun x hx=>by simp at hx,rfl,fun j=>⟨[.slice none 0 0],rfl,?_⟩⟩
  simp only [CR,Con.val,Con.ok]
  exact ⟨rfl,Nat.zero_le _,Nat.zero_le _,fun h=>absurd rfl h⟩
 ·simp only [if_true] at h4
  have h1':Value.slice a0 len0 cap0=.slice (some a) len cap:=by
   have h2:[Value.slice a0 len0 cap0]=[Value.slice (some a) len cap]:=h1
   simpa using h2
  rw [h1']
  have hz:len≤zs.length:=by omega
  have hl:(zs.take len).length=len:=by simp;omega
  refine ⟨some a,cap,zs.take len,by simp;omega,fun x hx=>?_,rfl,fun j=>⟨[.slice (some a) len cap],rfl,?_⟩⟩
  ·have:=h6 x (List.mem_of_mem_take hx)
   simp only [Lit.wf,Bool.and_eq_true,decide_eq_true_eq] at this
   have e1:IntKind.u8.min=0:=by decide
   have e2:IntKind.u8.max=255:=by decide
   rw [e1,e2] at this
   exact this
  ·simp only [CR,Con.val,hl,Con.ok,true_and]
   refine ⟨h2,h3,fun hne=>?_⟩
   have hpos:0<len:=by
    rcases Nat.eq_zero_or_pos len with h|h
    ·exact absurd (List.eq_nil_of_length_eq_zero (by rw [hl,h])) hne
    ·exact h
   have h0:=h5 0 (by omega)
   obtain ⟨b,off,spot⟩:=a
   simp only [Addr.add,if_true] at h0
   simp only [World.cell?] at h0
   cases hb:W.heap[b]? with
   | none=>simp [hb] at h0
   | some ob=>
    cases ob with
    | cells cur e fz=>
     simp only [hb] at h0
     cases spot with
     | some x=>simp at h0
     | none=>
      have hcell':∀ i,i<len→cur[off+i]? = some (.int .u8 (zs.getD i 0)):=fun i hi=>by
       have:=h5 i (by omega)
       rw [Bu] at this
       simpa [World.cell?,hb] using this
      have hsz:off+len≤cur.size:=by
       have:=hcell' (len-1) (by omega)
       have:=(Array.getElem?_eq_some_iff.1 this).1
       omega
      refine ⟨b,off,rfl,⟨(Array.getElem?_eq_some_iff.1 hb).1,rfl⟩,cur,e,fz,hb,hsz,fun i x hx=>?_⟩
      have hi:i<len:=by have:=(List.getElem?_eq_some_iff.1 hx).1;omega
      rw [hcell' i hi]
      rw [List.getElem?_take_of_lt hi] at hx
      simp [List.getD_eq_getElem?_getD,hx]
    | _=>simp [hb] at h0
theorem Fy (l:List Int) (hl:l.length≤1099511627776):AFn Tryz.prog 47 [.sl false 2 (intL l),.sl false 2 (intL l)] (.bool true):=by
 refine fO Tryz.func47 Tryz.ntmps47 (by rw [Tryz.results47]) fun C hP hM hC=>?_
 (repeat (first|((with_reducible refine rC rfl fun K hK=>?_);simp only [go_sem,seval,↓reduceIte,bne_self_eq_false];refine hK _ _ _ ?_;clear hK K)|refine sT ?_))
 refine AWP.loop (fun i:Nat=>[(5,⟨0,.val (.int .i64 i)⟩),(0,⟨0,.val (.sl false 2 (intL l))⟩),(1,⟨0,.val (.sl false 2 (intL l))⟩)]) (fun i=>i≤l.length) (fun i=>l.length-i) 0 (Nat.zero_le _) (fun i=>rfl) ?_ (fun i hi=>?_)
 ·simp [Sub,lk]
 ·by_cases h:i<l.length
  ·(repeat (first|((with_reducible refine rC rfl fun K hK=>?_);simp only [go_sem,seval,↓reduceIte,show (i:Int)<(l.length:Int) by omega,h,Ac l i h,Int.natCast_nonneg,Int.toNat_natCast,bne_self_eq_false,wid ((i:Int)+1) (by omega) (by omega)];refine hK _ _ _ ?_;clear hK K)|refine sT ?_))
   exact ⟨i+1,h,by omega,by simp [Sub,lk]⟩
  ·(repeat (first|((with_reducible refine rC rfl fun K hK=>?_);simp only [go_sem,seval,↓reduceIte,show ¬ (i:Int)<(l.length:Int) by omega];refine hK _ _ _ ?_;clear hK K)|refine sT ?_))
   refine rt1 ?_
   rfl
theorem Ga  : AFn Tryz.prog 47 [.nil,.nil] (.bool true):=by
 refine fO Tryz.func47 Tryz.ntmps47 (by rw [Tryz.results47]) fun C hP hM hC=>?_
 (repeat (first|((with_reducible refine rC rfl fun K hK=>?_);simp only [go_sem,seval,↓reduceIte,bne_self_eq_false];refine hK _ _ _ ?_;clear hK K)|refine sT ?_))
 refine AWP.loop (fun i:Nat=>[(5,⟨0,.val (.int .i64 0)⟩),(0,⟨0,.val (.nil)⟩),(1,⟨0,.val (.nil)⟩)]) (fun i=>True) (fun i=>0) 0 trivial (fun i=>rfl) ?_ (fun i hi=>?_)
 ·simp [Sub,lk]
 ·(repeat (first|((with_reducible refine rC rfl fun K hK=>?_);simp only [go_sem,seval,↓reduceIte,show ¬ (0:Int)<0 by omega];refine hK _ _ _ ?_;clear hK K)|refine sT ?_))
  refine rt1 ?_
  rfl
theorem Js (m:Int) (l:List Int) (hl:l.length≤1099511627776):AFn Tryz.prog 14 [.agg [.int .i64 m,.sl false 2 (intL l)],.agg [.int .i64 m,.sl false 2 (intL l)]] (.bool true):=by
 refine fO Tryz.func14 Tryz.ntmps14 (by rw [Tryz.results14]) fun C hP hM hC=>?_
 (repeat (first|((with_reducible refine rC rfl fun K hK=>?_);simp only [go_sem,seval,↓reduceIte,beq_self_eq_true];(first|refine hK _ _ _ ?_|refine ⟨_,Fy l hl,hK _ _ _ ?_⟩);clear hK K)|refine sT ?_))
 refine rt1 ?_
 rfl
theorem G6 (m:Int):AFn Tryz.prog 14 [.agg [.int .i64 m,.nil],.agg [.int .i64 m,.nil]] (.bool true):=by
 refine fO Tryz.func14 Tryz.ntmps14 (by rw [Tryz.results14]) fun C hP hM hC=>?_
 (repeat (first|((with_reducible refine rC rfl fun K hK=>?_);simp only [go_sem,seval,↓reduceIte,beq_self_eq_true];(first|refine hK _ _ _ ?_|refine ⟨_,Ga,hK _ _ _ ?_⟩);clear hK K)|refine sT ?_))
 refine rt1 ?_
 rfl
end Go.Proofs.YtapdekacpecgiaaGreat

import Derived.Test.YtapdekacpecgiaaGreatBf
import Derived.Test.YtapdekacpecgiaaGreatKh
import Derived.Test.YtapdekacpecgiaaGreatRn
import Derived.Test.YtapdekacpecgiaaGreatRl
namespace Go.Proofs.YtapdekacpecgiaaGreat
open Go.RowKit
set_option linter.unusedSimpArgs false
set_option linter.unusedVariables false
set_option linter.unusedSectionVars false
set_option maxRecDepth 20000
set_option maxHeartbeats 1000000
def ty3 (l:List Int):List Int:=l++List.replicate (3-l.length) 0
def nuP (p:Nat) (m:Int) (l A:List Int) (k:Nat):Nat→Int
 | 0=>0
 | i+1=>(nuP p m l A k i+((p:Int)^(k-1-i)%m*at' A i%m)*(at' l (k-i-1)^(p^i)%m))%m
def nuL (p:Nat) (m:Int) (l:List Int):Nat→List Int
 | 0=>[1%m]
 | k+1=>nuL p m l k++[nuP p m l (nuL p m l k) (k+1) (k+1)]
theorem Acf {p:Nat} {m:Int} (hm:0<m) (l A:List Int) (k:Nat):∀ i,0≤nuP p m l A k i∧nuP p m l A k i<m
 | 0=>by rw [nuP];omega
 | i+1=>Ag _ m hm
theorem Gr {p:Nat} {m:Int} (hm:0<m) (l:List Int):∀ k,(nuL p m l k).length=k+1∧∀ x∈nuL p m l k,0≤x∧x<m
 | 0=>⟨rfl,fun x hx=>by
  rw [nuL,List.mem_singleton] at hx
  rw [hx];exact Ag _ m hm⟩
 | k+1=>⟨by rw [nuL,List.length_append,(Gr hm l k).1];rfl,Ai5 (Gr hm l k).2 (Acf hm _ _ _ _)⟩
theorem Gb (p D k:Nat) (hp:2≤p) (hp2:p≤7) (h1:p^k≤D) (h2:D<p^(k+1)) (hk3:k≤3) (hD:D≤1000):AFn Tryz.prog 129 [.int .i64 p,.int .i64 D] (.tup [.int .i64 k,.int .i64 (p^k:Nat)]):=by
 refine fO Tryz.func129 Tryz.ntmps129 (by rw [Tryz.results129]) fun C hP hM hC=>?_
 (repeat (first|((with_reducible refine rC rfl fun K hK=>?_);simp only [go_sem,seval,↓reduceIte];refine hK _ _ _ ?_;clear hK K)|refine sT ?_))
 refine AWP.loop (fun i:Nat=>[(6,⟨0,.val (.int .i64 i)⟩),(7,⟨0,.val (.int .i64 (p^i:Nat))⟩),(0,⟨0,.val (.int .i64 p)⟩),(1,⟨0,.val (.int .i64 D)⟩)]) (fun i=>i≤k) (fun i=>k-i) 0 (Nat.zero_le _) (fun i=>rfl) ?_ (fun i hi=>?_)
 ·simp [Sub,lk]
 ·have hpi:p^i≤p^k:=Nat.pow_le_pow_right (by omega) hi
  have hps:p^(i+1)=p^i*p:=Nat.pow_succ ..
  have hm7:p^i*p≤1000*7:=Nat.mul_le_mul (by omega) hp2
  have e1:IntKind.i64.wrap (((p^i:Nat):Int)*(p:Int))=((p^(i+1):Nat):Int):=by
   rw [hps,Int.natCast_mul,wid _ (by rw [← Int.natCast_mul];omega) (by rw [← Int.natCast_mul];omega)]
  by_cases h:i<k
  ·have hle:p^(i+1)≤p^k:=Nat.pow_le_pow_right (by omega) h
   have zq1:((p^(i+1):Nat):Int)≤(D:Int):=(by omega);have zq2:IntKind.i64.wrap ((i:Int)+1)=((i+1:Nat):Int):=(by rw [wid _ (by omega) (by omega)];omega)
   (repeat (first|((with_reducible refine rC rfl fun K hK=>?_);simp only [go_sem,seval,↓reduceIte,e1,zq1,zq2];refine hK _ _ _ ?_;clear hK K)|refine sT ?_))
   exact ⟨i+1,by omega,by omega,by simp [Sub,lk]⟩
  ·obtain rfl:i=k:=by omega
   have zq3:¬ ((p^(i+1):Nat):Int)≤(D:Int):=(by omega)
   (repeat (first|((with_reducible refine rC rfl fun K hK=>?_);simp only [go_sem,seval,↓reduceIte,e1,zq3];refine hK _ _ _ ?_;clear hK K)|refine sT ?_))
   refine rt2 ?_
   rfl
theorem In (l:List Int) (hl:l.length≤3):AFn Tryz.prog 134 [.sl false 2 (intL l)] (.sl true 2 (intL (ty3 l))):=by
 refine fO Tryz.func134 Tryz.ntmps134 (by rw [Tryz.results134]) fun C hP hM hC=>?_
 have hO:=Eb l (by omega)
 (repeat (first|((with_reducible refine rC rfl fun K hK=>?_);simp only [go_sem,seval,↓reduceIte];(first|refine hK _ _ _ ?_|refine ⟨_,hO,hK _ _ _ ?_⟩);clear hK K)|refine sT ?_))
 refine AWP.loop (fun w:Nat×Nat=>[(3,⟨w.2,.own (.sl true 2 (intL (l++List.replicate w.1 0)))⟩)]) (fun w=>w.1≤3-l.length) (fun w=>3-w.1) (0,1) (Nat.zero_le _) (fun i=>rfl) ?_ (fun w hw=>?_)
 ·simp [Sub,lk]
 ·obtain ⟨i,v⟩:=w
  simp only at hw ⊢
  have hll:(l++List.replicate i (0:Int)).length=l.length+i:=by simp
  by_cases h:i<3-l.length
  ·have e:(l++List.replicate i (0:Int))++[0]=l++List.replicate (i+1) 0:=by rw [List.append_assoc,← List.replicate_succ']
   have zq1:((l.length+i:Nat):Int)<3:=(by omega);have zq2:l.length+i+1≤1099511627776:=(by omega);have zq3:(l.length+i+1)*8≤140737488355328:=(by omega)
   (repeat (first|((with_reducible refine rC rfl fun K hK=>?_);simp only [go_sem,seval,↓reduceIte,hll,zq1,Bt,e,zq2,zq3];refine hK _ _ _ ?_;clear hK K)|refine sT ?_))
   exact ⟨(i+1,v+1),by simp only;omega,by simp only;omega,by simp [Sub,lk]⟩
  ·have zq4:¬ ((l.length+i:Nat):Int)<3:=(by omega)
   (repeat (first|((with_reducible refine rC rfl fun K hK=>?_);simp only [go_sem,seval,↓reduceIte,hll,zq4];refine hK _ _ _ ?_;clear hK K)|refine sT ?_))
   refine rt1 ?_
   rw [ty3,show 3-l.length=i by omega]
set_option maxHeartbeats 4000000 in
theorem Ed (p:Nat) (m:Int) (l:List Int) (hp:2≤p) (hp2:p≤7) (hm:0<m) (hm2:m≤1000000) (hl:l.length≤3):AFn Tryz.prog 132 [.int .i64 p,.int .i64 m,.sl false 2 (intL l)] (.sl true 2 (intL (nuL p m l l.length))):=by
 refine fO Tryz.func132 Tryz.ntmps132 (by rw [Tryz.results132]) fun C hP hM hC=>?_
 have e1:(1:Int).tmod m=1%m:=tm 1 m (by omega)
 have e0:[T.int .i64 (1%m)]=intL (nuL p m l 0):=rfl
 have zq1:m≠0:=(by omega)
 (repeat (first|((with_reducible refine rC rfl fun K hK=>?_);simp only [go_sem,seval,↓reduceIte,e1,zq1,e0];refine hK _ _ _ ?_;clear hK K)|refine sT ?_))
 refine AWP.loop (fun w:Nat×Nat=>[(8,⟨0,.val (.int .i64 (w.1+1:Nat))⟩),(7,⟨w.2,.own (.sl true 2 (intL (nuL p m l w.1)))⟩),(0,⟨0,.val (.int .i64 p)⟩),(1,⟨0,.val (.int .i64 m)⟩),(2,⟨0,.val (.sl false 2 (intL l))⟩)]) (fun w=>w.1≤l.length) (fun w=>l.length-w.1) (0,1) (Nat.zero_le _) (fun i=>rfl) ?_ (fun w hw=>?_)
 ·simp [Sub,lk]
 ·obtain ⟨k,v⟩:=w
  simp only at hw ⊢
  have hf:=Gr (p:=p) hm l k
  by_cases h:k<l.length
  ·have zq2:((k+1:Nat):Int)≤(l.length:Int):=(by omega)
   (repeat (first|((with_reducible refine rC rfl fun K hK=>?_);simp only [go_sem,seval,↓reduceIte,zq2];refine hK _ _ _ ?_;clear hK K)|refine sT ?_))
   refine AWP.loop (fun i:Nat=>[(11,⟨0,.val (.int .i64 i)⟩),(10,⟨0,.val (.int .i64 (p^i:Nat))⟩),(9,⟨0,.val (.int .i64 (nuP p m l (nuL p m l k) (k+1) i))⟩),(8,⟨0,.val (.int .i64 (k+1:Nat))⟩),(7,⟨v,.own (.sl true 2 (intL (nuL p m l k)))⟩),(0,⟨0,.val (.int .i64 p)⟩),(1,⟨0,.val (.int .i64 m)⟩),(2,⟨0,.val (.sl false 2 (intL l))⟩)]) (fun i=>i≤k+1) (fun i=>k+1-i) 0 (Nat.zero_le _) (fun i=>rfl) ?_ (fun i hi=>?_)
   ·simp [Sub,lk,nuP]
   ·by_cases hik:i<k+1
    ·have hpi : p ^ i ≤ 343 := by
      have h1:p^i≤7^i:=Nat.pow_le_pow_left hp2 i
      have h2:7^i≤7^3:=Nat.pow_le_pow_right (by omega) (by omega)
      omega
     have hps:p^(i+1)=p^i*p:=Nat.pow_succ ..
     have hm7:p^i*p≤343*7:=Nat.mul_le_mul hpi hp2
     have c1:=Ep m (p:Int) (k-i) hm hm2 (by omega)
     have c2:=Ep m (at' l (k-i)) (p^i) hm hm2 (by omega)
     have hA:=A4 hf.2 hm i
     have b1:=Ag ((p:Int)^(k-i)) m hm
     have b2:=Ag (at' l (k-i)^(p^i)) m hm
     have m1:=Ee b1.1 b1.2 hA.1 hA.2 hm2
     have b3:=Ag ((p:Int)^(k-i)%m*at' (nuL p m l k) i) m hm
     have m2:=Ee b3.1 b3.2 b2.1 b2.2 hm2
     have b4:=Acf (p:=p) hm l (nuL p m l k) (k+1) i
     have e4:(nuP p m l (nuL p m l k) (k+1) i+((p:Int)^(k-i)%m*at' (nuL p m l k) i%m)*(at' l (k-i)^(p^i)%m))%m=nuP p m l (nuL p m l k) (k+1) (i+1):=by
      rw [nuP,show k+1-1-i=k-i by omega,show k+1-i-1=k-i by omega]
     have zq3:(i:Int)<((k+1:Nat):Int):=(by omega);have zq4:IntKind.i64.wrap (((k+1:Nat):Int)-1)=(k:Int):=(by rw [wid _ (by omega) (by omega)];omega);have zq5:IntKind.i64.wrap ((k:Int)-(i:Int))=((k-i:Nat):Int):=(by rw [wid _ (by omega) (by omega)];omega);have zq6:IntKind.i64.wrap (((k+1:Nat):Int)-(i:Int))=((k-i+1:Nat):Int):=(by rw [wid _ (by omega) (by omega)];omega);have zq7:IntKind.i64.wrap (((k-i+1:Nat):Int)-1)=((k-i:Nat):Int):=(by rw [wid _ (by omega) (by omega)];omega);have zq8:(i:Int)<((k+1:Nat):Int):=(by omega);have zq9:=Ao (nuL p m l k) i (by rw [hf.1];omega);have zq10:=Ai (nuL p m l k) i (by rw [hf.1];omega);have zq11:(nuL p m l k).getD i 0=at' (nuL p m l k) i:=rfl;have zq12:((k-i:Nat):Int)<(l.length:Int):=(by omega);have zq13:=Ac l (k-i) (by omega);have zq14:l.getD (k-i) 0=at' l (k-i):=rfl;have zq15:=wid ((p:Int)^(k-i)%m*at' (nuL p m l k) i) (by omega) (by omega);have zq16:m≠0:=(by omega);have zq17:=wid (((p:Int)^(k-i)%m*at' (nuL p m l k) i%m)*(at' l (k-i)^(p^i)%m)) (by omega) (by omega);have zq18:=wid (nuP p m l (nuL p m l k) (k+1) i+((p:Int)^(k-i)%m*at' (nuL p m l k) i%m)*(at' l (k-i)^(p^i)%m)) (by omega) (by omega);have zq19:=tm (nuP p m l (nuL p m l k) (k+1) i+((p:Int)^(k-i)%m*at' (nuL p m l k) i%m)*(at' l (k-i)^(p^i)%m)) m (by omega);have zq20:IntKind.i64.wrap (((p^i:Nat):Int)*(p:Int))=((p^(i+1):Nat):Int):=(by rw [hps,Int.natCast_mul,wid _ (by rw [← Int.natCast_mul];omega) (by rw [← Int.natCast_mul];omega)]);have zq21:=wid ((i:Int)+1) (by omega) (by omega)
     (repeat (first|((with_reducible refine rC rfl fun K hK=>?_);simp only [go_sem,seval,↓reduceIte,zq3,zq4,zq5,zq6,zq7,hf.1,zq8,Int.natCast_nonneg,Int.toNat_natCast,Nat.mul_one,zq9,zq10,zq11,zq12,zq13,zq14,zq15,tm _ m m1.1,zq16,zq17,zq18,zq19,e4,zq20,zq21];(first|refine hK _ _ _ ?_|refine ⟨_,c1,hK _ _ _ ?_⟩|refine ⟨_,c2,hK _ _ _ ?_⟩);clear hK K)|refine sT ?_))
     exact ⟨i+1,by omega,by omega,by simp [Sub,lk]⟩
    ·obtain rfl:i=k+1:=by omega
     have zq22:¬ ((k+1:Nat):Int)<((k+1:Nat):Int):=(by omega);have zq23:nuL p m l k++[nuP p m l (nuL p m l k) (k+1) (k+1)]=nuL p m l (k+1):=rfl;have zq24:k+1+1≤1099511627776:=(by omega);have zq25:(k+1+1)*8≤140737488355328:=(by omega);have zq26:IntKind.i64.wrap (((k+1:Nat):Int)+1)=((k+1+1:Nat):Int):=(by rw [wid _ (by omega) (by omega)];omega)
     (repeat (first|((with_reducible refine rC rfl fun K hK=>?_);simp only [go_sem,seval,↓reduceIte,zq22,hf.1,Bt,zq23,zq24,zq25,zq26];refine hK _ _ _ ?_;clear hK K)|refine sT ?_))
     exact ⟨(k+1,v+1),by simp only;omega,by simp only;omega,by simp [Sub,lk]⟩
  ·obtain rfl:k=l.length:=by omega
   have zq27:¬ ((l.length+1:Nat):Int)≤(l.length:Int):=(by omega)
   (repeat (first|((with_reducible refine rC rfl fun K hK=>?_);simp only [go_sem,seval,↓reduceIte,zq27];refine hK _ _ _ ?_;clear hK K)|refine sT ?_))
   refine rt1 ?_
   rfl
def pwK (w:Int) (n:Nat) (t:List (List Int)):Nat→List (List Int)
 | 0=>t
 | k+1=>pmul w n (pc (pwK w n t k)) (pc t)
theorem Ub {w:Int} {n:Nat} {t:List (List Int)} (hw:0<w) (ht:Pl w n t):∀ k,Pl w n (pwK w n t k)
 | 0=>ht
 | k+1=>Qy hw n _ _
theorem Lm (w:Int) (a:Option Addr) (N c:Nat):AFn Tryz.prog 244 [.int .i64 w,.str (.raw a N c),.int .i64 1] (.str (.raw a N c)):=by
 refine fO Tryz.func244 Tryz.ntmps244 (by rw [Tryz.results244]) fun C hP hM hC=>?_
 (repeat (first|((with_reducible refine rC rfl fun K hK=>?_);simp only [go_sem,seval,↓reduceIte];refine hK _ _ _ ?_;clear hK K)|refine sT ?_))
 refine AWP.loop (fun i:Nat=>[(7,⟨0,.val (.str (.raw a N c))⟩),(2,⟨0,.val (.int .i64 1)⟩),(1,⟨0,.val (.str (.raw a N c))⟩),(0,⟨0,.val (.int .i64 w)⟩)]) (fun i=>True) (fun i=>0) 0 trivial (fun i=>rfl) ?_ (fun i hi=>?_)
 ·simp [Sub,lk]
 ·have zq1:¬ (1:Int)<1:=(by omega)
  (repeat (first|((with_reducible refine rC rfl fun K hK=>?_);simp only [go_sem,seval,↓reduceIte,zq1];refine hK _ _ _ ?_;clear hK K)|refine sT ?_))
  refine rt1 ?_
  rfl
theorem Lk (w:Int) (t:List (List Int)):AFn Tryz.prog (9000000+244) [.int .i64 w,.sl false 27 (rowsF t),.int .i64 1] (.sl false 27 (rowsF t)):=
 Zs.2 (.inl ⟨1,_,_,rfl,rfl,fun a c=>(Fg (by decide)).1 (Lm w a _ c)⟩)
set_option maxHeartbeats 4000000 in
theorem Nc (w:Int) (t:List (List Int)) (n k:Nat) (hw:0<w) (hw2:w≤1000000) (ht:Pl w n t) (h1:1≤n) (hn:n≤1000) (hk:1≤k) (hk2:k≤100000):AFn Tryz.prog 244 [.int .i64 w,.sl false 27 (rowsF t),.int .i64 (k+1:Nat)] (.sl true 27 (rowsO (pwK w n t k))):=by
 refine fO Tryz.func244 Tryz.ntmps244 (by rw [Tryz.results244]) fun C hP hM hC=>?_
 (repeat (first|((with_reducible refine rC rfl fun K hK=>?_);simp only [go_sem,seval,↓reduceIte];refine hK _ _ _ ?_;clear hK K)|refine sT ?_))
 refine AWP.loop (fun s:Option (Nat×Nat)=>match s with
  | none=>[(7,⟨0,.val (.sl false 27 (rowsF t))⟩),(2,⟨0,.val (.int .i64 (k+1:Nat))⟩),(1,⟨0,.val (.sl false 27 (rowsF t))⟩),(0,⟨0,.val (.int .i64 w)⟩)]
  | some (j,v)=>[(7,⟨v,.own (.sl true 27 (rowsO (pwK w n t (j+1))))⟩),(2,⟨0,.val (.int .i64 (k-j:Nat))⟩),(1,⟨0,.val (.sl false 27 (rowsF t))⟩),(0,⟨0,.val (.int .i64 w)⟩)]) (fun s=>match s with
  | none=>True
  | some (j,v)=>j+1≤k) (fun s=>match s with
  | none=>k+1
  | some (j,v)=>k-j) none trivial (fun s=>by cases s <;> rfl) ?_ (fun s hs=>?_)
 ·simp [Sub,lk]
 ·cases s with
  | none=>
   simp only
   have cT:=E7 w t t n hw hw2 ht ht h1 hn
   have zq1:(1:Int)<((k+1:Nat):Int):=(by omega);have zq2:IntKind.i64.wrap (((k+1:Nat):Int)-1)=(k:Int):=(by rw [wid _ (by omega) (by omega)];omega)
   (repeat (first|((with_reducible refine rC rfl fun K hK=>?_);simp only [go_sem,seval,↓reduceIte,zq1,zq2];(first|refine hK _ _ _ ?_|refine ⟨_,cT,hK _ _ _ ?_⟩);clear hK K)|refine sT ?_))
   exact ⟨some (0,1),by simp only;omega,by simp only;omega,by simp [Sub,lk,pwK]⟩
  | some y=>
   obtain ⟨j,v⟩:=y
   simp only at hs ⊢
   have hp:=Ub hw ht (j+1)
   by_cases h:1<k-j
   ·have cT:=E7 w (pwK w n t (j+1)) t n hw hw2 hp ht h1 hn
    have zq3:(1:Int)<((k-j:Nat):Int):=(by omega);have zq4:IntKind.i64.wrap (((k-j:Nat):Int)-1)=((k-(j+1):Nat):Int):=(by rw [wid _ (by omega) (by omega)];omega)
    (repeat (first|((with_reducible refine rC rfl fun K hK=>?_);simp only [go_sem,seval,↓reduceIte,zq3,zq4];(first|refine hK _ _ _ ?_|refine ⟨_,cT,hK _ _ _ ?_⟩);clear hK K)|refine sT ?_))
    exact ⟨some (j+1,v+1),by simp only;omega,by simp only;omega,by simp [Sub,lk,pwK]⟩
   ·have zq5:¬ (1:Int)<((k-j:Nat):Int):=(by omega)
    (repeat (first|((with_reducible refine rC rfl fun K hK=>?_);simp only [go_sem,seval,↓reduceIte,zq5];refine hK _ _ _ ?_;clear hK K)|refine sT ?_))
    refine rt1 ?_
    rw [show j+1=k by omega]
theorem Qp (t:List (List Int)) (hs:t.length≤1000∧∀ i,(t.getD i []).length≤1000):AFn Tryz.prog 243 [.sl false 27 (rowsF t)] (.sl true 27 (rowsO t)):=by
 refine fO Tryz.func243 Tryz.ntmps243 (by rw [Tryz.results243]) fun C hP hM hC=>?_
 (repeat (first|((with_reducible refine rC rfl fun K hK=>?_);simp only [go_sem,seval,↓reduceIte];refine hK _ _ _ ?_;clear hK K)|refine sT ?_))
 refine AWP.loop (fun w:Nat×Nat=>[(4,⟨0,.val (.int .i64 w.1)⟩),(3,⟨w.2,.own (.sl true 27 (rowsO (t.take w.1)))⟩),(0,⟨0,.val (.sl false 27 (rowsF t))⟩)]) (fun w=>w.1≤t.length) (fun w=>t.length-w.1) (0,1) (Nat.zero_le _) (fun i=>rfl) ?_ (fun w hw=>?_)
 ·simp [Sub,lk,rowsO]
 ·obtain ⟨i,v⟩:=w
  simp only at hw ⊢
  have hll:(t.take i).length=i:=by rw [List.length_take];omega
  by_cases h:i<t.length
  ·have hsn : t.take i ++ [t.getD i []] = t.take (i + 1) := by
    rw [List.take_add_one,List.getD_eq_getElem?_getD,List.getElem?_eq_getElem h];rfl
   have cO:=Eb (t.getD i []) (by have:=hs.2 i;omega)
   have zq1:(i:Int)<(t.length:Int):=(by omega);have zq2:=Ad t i h;have zq3:i+1≤1099511627776:=(by omega);have zq4:(i+1)*24≤140737488355328:=(by omega);have zq5:=wid ((i:Int)+1) (by omega) (by omega)
   (repeat (first|((with_reducible refine rC rfl fun K hK=>?_);simp only [go_sem,seval,↓reduceIte,Aa,zq1,Int.natCast_nonneg,Int.toNat_natCast,zq2,At,hll,Em,hsn,zq3,zq4,zq5];(first|refine hK _ _ _ ?_|refine ⟨_,cO,hK _ _ _ ?_⟩);clear hK K)|refine sT ?_))
   exact ⟨(i+1,v+1),by simp only;omega,by simp only;omega,by simp [Sub,lk]⟩
  ·have zq6:¬ (i:Int)<(t.length:Int):=(by omega)
   (repeat (first|((with_reducible refine rC rfl fun K hK=>?_);simp only [go_sem,seval,↓reduceIte,Aa,zq6];refine hK _ _ _ ?_;clear hK K)|refine sT ?_))
   refine rt1 ?_
   rw [List.take_of_length_le (by omega)]
def xyT (w:Int) (D:Nat) (t:List (List Int)) (q:Nat):List (List Int):=
 if q≤D then put2 (put2 t q 0 ((pc t q 0-1)%w)) 0 q ((pc (put2 t q 0 ((pc t q 0-1)%w)) 0 q-1)%w) else t
theorem Aly {w:Int} {D:Nat} {t:List (List Int)} (hw:0<w) (h:Pl w (D+1) t) (q:Nat):Pl w (D+1) (xyT w D t q):=by
 unfold xyT
 split
 ·exact (h.put (Ag _ w hw) _ _).put (Ag _ w hw) _ _
 ·exact h
def rsT (p:Nat) (w:Int) (most:Nat) (A:List Int) (t:List (List Int)) (D:Nat):Nat→List (List Int)
 | 0=>tab2 (D+1) (fun _ _=>0)
 | k+1=>sadT w (D+1) (rsT p w most A t D k) (sscT w ((p:Int)^(most-k)%w*at' A k%w) (D+1) (xyT w D (pwK w (D+1) t (p^k-1)) (p^k)))
theorem Tu {p:Nat} {w:Int} {most:Nat} {A:List Int} {t:List (List Int)} {D:Nat} (hw:0<w):∀ k,Pl w (D+1) (rsT p w most A t D k)
 | 0=>zeroPl hw _
 | k+1=>Yl hw _ _ _
theorem Adx {w:Int} {n:Nat} {t:List (List Int)} (h:Pl w n t) (hn:n≤1000):t.length≤1000∧∀ i,(t.getD i []).length≤1000:=⟨by rw [h.len];omega,fun i=>by
 by_cases hi:i<n
 ·rw [h.row i hi];omega
 ·rw [List.getD_eq_getElem?_getD,List.getElem?_eq_none (by rw [h.len];omega)];exact Nat.zero_le _⟩
set_option maxHeartbeats 16000000 in
theorem Qd (p:Nat) (w:Int) (most:Nat) (A:List Int) (t:List (List Int)) (D:Nat) (hp:2≤p) (hp2:p≤7) (hw:0<w) (hw2:w≤1000000) (hmo:most≤3) (hA:∀ x∈A,0≤x∧x<w) (hAl:most<A.length) (hAl2:A.length≤10) (ht:Pl w (D+1) t) (h1:1≤D) (hD:D≤100):AFn Tryz.prog 203 [.int .i64 p,.int .i64 w,.int .i64 most,.sl false 2 (intL A),.sl false 27 (rowsF t)] (.sl true 27 (rowsO (rsT p w most A t D (most+1)))):=by
 refine fO Tryz.func203 Tryz.ntmps203 (by rw [Tryz.results203]) fun C hP hM hC=>?_
 have hZ:=Ea D (by omega)
 have zq1:IntKind.i64.wrap (((D+1:Nat):Int)-1)=(D:Int):=(by rw [wid _ (by omega) (by omega)];omega)
 (repeat (first|((with_reducible refine rC rfl fun K hK=>?_);simp only [go_sem,seval,↓reduceIte,Aa,ht.len,zq1];(first|refine hK _ _ _ ?_|refine ⟨_,hZ,hK _ _ _ ?_⟩);clear hK K)|refine sT ?_))
 refine AWP.loop (fun v:Nat×Nat=>[(14,⟨0,.val (.int .i64 v.1)⟩),(13,⟨0,.val (.int .i64 (p^v.1:Nat))⟩),(12,⟨v.2,.own (.sl true 27 (rowsO (rsT p w most A t D v.1)))⟩),(11,⟨0,.val (.int .i64 D)⟩),(0,⟨0,.val (.int .i64 p)⟩),(1,⟨0,.val (.int .i64 w)⟩),(2,⟨0,.val (.int .i64 most)⟩),(3,⟨0,.val (.sl false 2 (intL A))⟩),(4,⟨0,.val (.sl false 27 (rowsF t))⟩)]) (fun v=>v.1≤most+1) (fun v=>most+1-v.1) (0,1) (Nat.zero_le _) (fun i=>rfl) ?_ (fun v hv=>?_)
 ·simp [Sub,lk,rsT]
 ·obtain ⟨k,v⟩:=v
  simp only at hv ⊢
  by_cases h:k<most+1
  ·have hpk : p ^ k ≤ 343 := by
    have h1:p^k≤7^k:=Nat.pow_le_pow_left hp2 k
    have h2:7^k≤7^3:=Nat.pow_le_pow_right (by omega) (by omega)
    omega
   have hpk1:1≤p^k:=Nat.le_trans Nat.one_le_two_pow (Nat.pow_le_pow_left hp k)
   have hps:p^(k+1)=p^k*p:=Nat.pow_succ ..
   have hm7:p^k*p≤343*7:=Nat.mul_le_mul hpk hp2
   have hcy:∃ R:T,AFn Tryz.prog (9000000+244) [.int .i64 w,.sl false 27 (rowsF t),.int .i64 (p^k:Nat)] R∧R.freeze=(.sl false 27 (rowsF (pwK w (D+1) t (p^k-1))))∧(R=(.sl false 27 (rowsF (pwK w (D+1) t (p^k-1))))∨R=(.sl true 27 (rowsO (pwK w (D+1) t (p^k-1))))):=by
    by_cases e:p^k=1
    ·rw [e]
     exact ⟨_,Lk w t,by simp only [Nz];rfl,.inl rfl⟩
    ·obtain ⟨q,hq⟩:∃ q,p^k=q+1+1:=⟨p^k-2,by omega⟩
     rw [hq]
     exact ⟨_,Zs.2 (.inr ((Fg (by decide)).1 (Nc w t (D+1) (q+1) hw hw2 ht (by omega) (by omega) (by omega) (by omega)))),by simp only [N3,F3];rfl,.inr rfl⟩
   obtain ⟨R,cP,_,hR⟩:=hcy
   have pP:=Ub hw ht (p^k-1)
   have cO:=Qp (pwK w (D+1) t (p^k-1)) (Adx pP (by omega))
   generalize hPP:pwK w (D+1) t (p^k-1)=P at *
   generalize hqq:p^k=q at *
   have cR:=Ep w (p:Int) (most-k) hw hw2 (by omega)
   have bR:=Ag ((p:Int)^(most-k)) w hw
   have bA:=A4 hA hw k
   have mA:=Ee bR.1 bR.2 bA.1 bA.2 hw2
   have bc:=Ag ((p:Int)^(most-k)%w*at' A k) w hw
   have pX:=Aly hw pP q
   have cS:=Hg w ((p:Int)^(most-k)%w*at' A k%w) (xyT w D P q) (D+1) hw hw2 bc pX (by omega)
   have pS:=Tu (p:=p) (most:=most) (A:=A) (t:=t) (D:=D) hw k
   have cA:=Iv w (rsT p w most A t D k) (sscT w ((p:Int)^(most-k)%w*at' A k%w) (D+1) (xyT w D P q)) (D+1) hw hw2 pS (Y3 hw _ _ _) (by omega)
   have eA:sadT w (D+1) (rsT p w most A t D k) (sscT w ((p:Int)^(most-k)%w*at' A k%w) (D+1) (xyT w D P q))=rsT p w most A t D (k+1):=by rw [rsT,hqq,hPP]
   rw [eA] at cA
   have ww:IntKind.i64.wrap ((q:Int)*(p:Int))=((p^(k+1):Nat):Int):=by
    rw [hps,Int.natCast_mul,wid _ (by rw [← Int.natCast_mul];omega) (by rw [← Int.natCast_mul];omega)]
   by_cases hqD:q≤D
   ·have b1:=pP.num q 0
    have cM1:=Dt w (pc P q 0-1) hw (by omega)
    have g1:=Ag (pc P q 0-1) w hw
    have pP1:=pP.put g1 q 0
    generalize hx1:(pc P q 0-1)%w=x1 at *
    have b2:=pP1.num 0 q
    have cM2:=Dt w (pc (put2 P q 0 x1) 0 q-1) hw (by omega)
    have g2:=Ag (pc (put2 P q 0 x1) 0 q-1) w hw
    have pP2:=pP1.put g2 0 q
    generalize hx2:(pc (put2 P q 0 x1) 0 q-1)%w=x2 at *
    have eX:put2 (put2 P q 0 x1) 0 q x2=xyT w D P q:=by rw [xyT,if_pos hqD,hx1,hx2]
    rw [← eX] at cS cA
    rcases hR with rfl|rfl
    all_goals
     have zq2:(k:Int)≤(most:Int):=(by omega);have zq3:(q:Int)≤(D:Int):=(by omega);have zq4:(q:Int)<((D+1:Nat):Int):=(by omega);have zq5:(0:Int)<((D+1:Nat):Int):=(by omega);have zq6:(0:Int)<((D+1-q:Nat):Int):=(by omega);have zq7:(q:Int)<((D+1-0:Nat):Int):=(by omega);have zq8:(0:Int)≤1:=(by omega);have zq9:(1:Int).toNat=1:=rfl;have zq10:=Aw (P) (q) (by rw [(pP).len];omega);have zq11:=A2 (P) (q) (by rw [(pP).len];omega);have zq12:((P).getD (q) []).getD (0) 0=pc (P) (q) (0):=rfl;have zq13:=Aw (P) (0) (by rw [(pP).len];omega);have zq14:=A2 (P) (0) (by rw [(pP).len];omega);have zq15:((P).getD (0) []).getD (q) 0=pc (P) (0) (q):=rfl;have zq16:=Aw (P) (q) (by rw [(pP).len];omega);have zq17:=A2 (P) (q) (by rw [(pP).len];omega);have zq18:=Gk (P) (q) (0) (x1) (by rw [(pP).len];omega);have zq19:=Aw (put2 P q 0 x1) (0) (by rw [(pP1).len];omega);have zq20:=A2 (put2 P q 0 x1) (0) (by rw [(pP1).len];omega);have zq21:((put2 P q 0 x1).getD (0) []).getD (q) 0=pc (put2 P q 0 x1) (0) (q):=rfl;have zq22:=Aw (put2 P q 0 x1) (0) (by rw [(pP1).len];omega);have zq23:=A2 (put2 P q 0 x1) (0) (by rw [(pP1).len];omega);have zq24:=Gk (put2 P q 0 x1) (0) (q) (x2) (by rw [(pP1).len];omega);have zq25:=wid (pc P q 0-1) (by omega) (by omega);have zq26:=wid (pc (put2 P q 0 x1) 0 q-1) (by omega) (by omega);have zq27:IntKind.i64.wrap ((most:Int)-(k:Int))=((most-k:Nat):Int):=(by rw [wid _ (by omega) (by omega)];omega);have zq28:(k:Int)<(A.length:Int):=(by omega);have zq29:=Ac A k (by omega);have zq30:A.getD k 0=at' A k:=rfl;have zq31:=wid ((p:Int)^(most-k)%w*at' A k) (by omega) (by omega);have zq32:=tm ((p:Int)^(most-k)%w*at' A k) w mA.1;have zq33:w≠0:=(by omega);have zq34:=wid ((k:Int)+1) (by omega) (by omega)
     (repeat (first|((with_reducible refine rC rfl fun K hK=>?_);simp only [go_sem,seval,↓reduceIte,zq2,zq3,zq4,zq5,zq6,zq7,Int.natCast_nonneg,Int.toNat_natCast,Nat.mul_one,Int.le_refl,Int.toNat_zero,List.take_zero,Nat.zero_mul,zq8,zq9,Nat.sub_zero,At,(pP).len,zq10,zq11,(pP).row (q) (by omega),Ao ((P).getD (q) []) (0) (by rw [(pP).row _ (by omega)];omega),Ai ((P).getD (q) []) (0) (by rw [(pP).row _ (by omega)];omega),zq12,At,(pP).len,zq13,zq14,(pP).row (0) (by omega),Ao ((P).getD (0) []) (q) (by rw [(pP).row _ (by omega)];omega),Ai ((P).getD (0) []) (q) (by rw [(pP).row _ (by omega)];omega),zq15,At,(pP).len,zq16,zq17,(pP).row (q) (by omega),Ao ((P).getD (q) []) (0) (by rw [(pP).row _ (by omega)];omega),Ai ((P).getD (q) []) (0) (by rw [(pP).row _ (by omega)];omega),zq18,At,(pP1).len,zq19,zq20,(pP1).row (0) (by omega),Ao ((put2 P q 0 x1).getD (0) []) (q) (by rw [(pP1).row _ (by omega)];omega),Ai ((put2 P q 0 x1).getD (0) []) (q) (by rw [(pP1).row _ (by omega)];omega),zq21,At,(pP1).len,zq22,zq23,(pP1).row (0) (by omega),Ao ((put2 P q 0 x1).getD (0) []) (q) (by rw [(pP1).row _ (by omega)];omega),Ai ((put2 P q 0 x1).getD (0) []) (q) (by rw [(pP1).row _ (by omega)];omega),zq24,zq25,zq26,zq27,zq28,zq29,zq30,zq31,zq32,zq33,ww,zq34];(first|refine hK _ _ _ ?_|refine ⟨_,cP,hK _ _ _ ?_⟩|refine ⟨_,cO,hK _ _ _ ?_⟩|refine ⟨_,cM1,hK _ _ _ ?_⟩|refine ⟨_,cM2,hK _ _ _ ?_⟩|refine ⟨_,cR,hK _ _ _ ?_⟩|refine ⟨_,cS,hK _ _ _ ?_⟩|refine ⟨_,cA,hK _ _ _ ?_⟩);clear hK K)|refine sT ?_))
     exact ⟨(k+1,v+1),by simp only;omega,by simp only;omega,by simp [Sub,lk]⟩
   ·have eX:P=xyT w D P q:=by rw [xyT,if_neg hqD]
    rw [← eX] at cS cA
    rcases hR with rfl|rfl
    all_goals
     have zq35:(k:Int)≤(most:Int):=(by omega);have zq36:¬ (q:Int)≤(D:Int):=(by omega);have zq37:IntKind.i64.wrap ((most:Int)-(k:Int))=((most-k:Nat):Int):=(by rw [wid _ (by omega) (by omega)];omega);have zq38:(k:Int)<(A.length:Int):=(by omega);have zq39:=Ac A k (by omega);have zq40:A.getD k 0=at' A k:=rfl;have zq41:=wid ((p:Int)^(most-k)%w*at' A k) (by omega) (by omega);have zq42:=tm ((p:Int)^(most-k)%w*at' A k) w mA.1;have zq43:w≠0:=(by omega);have zq44:=wid ((k:Int)+1) (by omega) (by omega)
     (repeat (first|((with_reducible refine rC rfl fun K hK=>?_);simp only [go_sem,seval,↓reduceIte,zq35,zq36,zq37,zq38,Int.natCast_nonneg,Int.toNat_natCast,zq39,zq40,zq41,zq42,zq43,ww,zq44];(first|refine hK _ _ _ ?_|refine ⟨_,cP,hK _ _ _ ?_⟩|refine ⟨_,cO,hK _ _ _ ?_⟩|refine ⟨_,cR,hK _ _ _ ?_⟩|refine ⟨_,cS,hK _ _ _ ?_⟩|refine ⟨_,cA,hK _ _ _ ?_⟩);clear hK K)|refine sT ?_))
     exact ⟨(k+1,v+1),by simp only;omega,by simp only;omega,by simp [Sub,lk]⟩
  ·obtain rfl:k=most+1:=by omega
   have zq45:¬ ((most+1:Nat):Int)≤(most:Int):=(by omega)
   (repeat (first|((with_reducible refine rC rfl fun K hK=>?_);simp only [go_sem,seval,↓reduceIte,zq45];refine hK _ _ _ ?_;clear hK K)|refine sT ?_))
   refine rt1 ?_
   rfl
def lwI (w:Int) (top n:Nat) (R t:List (List Int)):Nat→List (List Int)
 | 0=>t
 | i+1=>put2 (lwI w top n R t i) (i+1) (n-(i+1)) ((0-pc R (i+1) (n-(i+1))/(top:Int))%w)
theorem Qa {w:Int} {top n N:Nat} {R t:List (List Int)} (hw:0<w) (h:Pl w N t):∀ i,Pl w N (lwI w top n R t i)
 | 0=>h
 | i+1=>(Qa hw h i).put (Ag _ w hw) _ _
def lwN (p:Nat) (w:Int) (most top:Nat) (A:List Int) (D:Nat):Nat→List (List Int)
 | 0=>put2 (put2 (zeT D) 0 1 1) 1 0 1
 | k+1=>lwI w top (k+2) (rsT p w most A (tab2 (k+2+1) (pc (lwN p w most top A D k))) (k+2) (most+1)) (lwN p w most top A D k) (k+1)
theorem P7 {p:Nat} {w:Int} {most top:Nat} {A:List Int} {D:Nat} (hw:1<w):∀ k,Pl w (D+1) (lwN p w most top A D k)
 | 0=>((Vh (by omega) D).put (by omega) 0 1).put (by omega) 1 0
 | k+1=>Qa (by omega) (P7 hw k) _
theorem U2 {w:Int} {n k:Nat} {t:List (List Int)} (h:Pl w n t) (hw:0<w):Pl w k (tab2 k (pc t)):=Pl.tab2 hw fun i j _=>h.num i j
def rmR (m:Int) (t:List (List Int)):Nat→List (List Int)
 | 0=>t
 | i+1=>(rmR m t i).set i (rmL m ((rmR m t i).getD i []))
theorem Ab8 (L:List (List Int)) (i:Nat) (x:List Int) (f:T→T) (hf:f (.sl true 2 (intL (L.getD i [])))=(.sl true 2 (intL x))) (h:i<L.length):(rowsO L).modify i f=rowsO (L.set i x):=by
 apply List.ext_getElem?
 intro a
 rw [List.getElem?_modify]
 by_cases e:i=a
 ·subst e
  rw [A2 _ _ h,A2 _ _ (by rw [List.length_set];exact h)]
  have e2:(L.set i x).getD i []=x:=by
   rw [List.getD_eq_getElem?_getD,List.getElem?_set_self h];rfl
  simp only [if_true,Option.map_eq_map,Option.map_some]
  rw [e2,hf]
 ·simp only [rowsO,if_neg e,List.getElem?_map,List.getElem?_set_ne e,Option.map_eq_map]
  cases L[a]? <;> rfl
theorem Hm (m:Int) (t:List (List Int)):∀ i,(rmR m t i).length=t.length
 | 0=>rfl
 | i+1=>by rw [rmR,List.length_set,Hm m t i]
theorem T6 (t:List (List Int)) (i a:Nat) (x:List Int):(t.set i x).getD a []=if a=i∧i<t.length then x else t.getD a []:=by
 rw [List.getD_eq_getElem?_getD,List.getElem?_set]
 by_cases h:i=a
 ·subst h
  by_cases h2:i<t.length
  ·rw [if_pos rfl,if_pos h2,if_pos ⟨rfl,h2⟩];rfl
  ·rw [if_pos rfl,if_neg h2,if_neg (fun e=>h2 e.2),List.getD_eq_getElem?_getD,List.getElem?_eq_none (by omega)]
 ·rw [if_neg h,if_neg (fun e=>h e.1.symm),← List.getD_eq_getElem?_getD]
theorem Ji (m:Int) (t:List (List Int)):∀ i a,(rmR m t i).getD a []=if a<i∧a<t.length then rmL m (t.getD a []) else t.getD a []
 | 0,a=>by rw [rmR,if_neg (by omega)]
 | i+1,a=>by
  rw [rmR,T6,Hm,Ji m t i i,Ji m t i a,if_neg (show ¬ (i<i∧i<t.length) by omega)]
  by_cases h:a=i∧i<t.length
  ·rw [if_pos h,if_pos ⟨by omega,by omega⟩,h.1]
  ·rw [if_neg h]
   by_cases h2:a<i∧a<t.length
   ·rw [if_pos h2,if_pos ⟨by omega,h2.2⟩]
   ·rw [if_neg h2, if_neg (fun e => by
     by_cases e2:a=i
     ·exact h ⟨e2,by omega⟩
     ·exact h2 ⟨by omega,e.2⟩)]
theorem Alv {m:Int} {l:List Int} (hm:0<m) (hl:∀ x∈l,0≤x) (j:Nat):at' (rmL m l) j=at' l j%m:=by
 rw [at',at',rmL,List.getD_eq_getElem?_getD,List.getD_eq_getElem?_getD,List.getElem?_map]
 by_cases h:j<l.length
 ·rw [List.getElem?_eq_getElem h]
  exact Int.tmod_eq_emod_of_nonneg (hl _ (List.getElem_mem h))
 ·rw [List.getElem?_eq_none (by omega)];rfl
theorem Acp {m w:Int} {N:Nat} {t:List (List Int)} (hm:0<m) (h:Pl w N t) (u v:Nat):pc (rmR m t N) u v=pc t u v%m:=by
 show at' ((rmR m t N).getD u []) v=at' (t.getD u []) v%m
 rw [Ji]
 split
 ·exact Alv hm (fun x hx=>(h.rowNum u x hx).1) v
 ·rename_i e
  have:t.getD u []=[]:=by rw [List.getD_eq_getElem?_getD,List.getElem?_eq_none (by rw [h.len] at e ⊢;omega)];rfl
  rw [this];rfl
theorem Alm {m w:Int} {N:Nat} {t:List (List Int)} (hm:0<m) (h:Pl w N t):Pl m N (rmR m t N):=by
 refine ⟨by rw [Hm,h.len],fun i hi=>?_,fun i j=>?_⟩
 ·rw [Ji,if_pos ⟨hi,by rw [h.len];exact hi⟩,O6];exact h.row i hi
 ·rw [Acp hm h];exact Ag _ m hm
def tyW (p:Nat) (m:Int) (k:Nat):Int:=m*((p^k:Nat):Int)*(p:Int)
def tyL (p:Nat) (m:Int) (l:List Int) (D k:Nat):List (List Int):=rmR m (lwN p (tyW p m k) k (p^k) (nuL p (tyW p m k) (ty3 l) 3) D (D-1)) (D+1)
theorem Am0 {p:Nat} {m:Int} {k D:Nat} (hp:2≤p) (hp2:p≤7) (hm:1<m) (hm2:m≤10000) (hk:p^k≤D) (hD:D≤10):0<m*((p^k:Nat):Int)∧m*((p^k:Nat):Int)≤100000∧1<tyW p m k∧tyW p m k≤1000000:=by
 have h1:1≤p^k:=Nat.le_trans Nat.one_le_two_pow (Nat.pow_le_pow_left hp k)
 have h2:0<m*((p^k:Nat):Int):=Int.mul_pos (by omega) (by omega)
 have h3:m*((p^k:Nat):Int)≤10000*10:=Int.mul_le_mul hm2 (by omega) (by omega) (by omega)
 have h4:m*((p^k:Nat):Int)*(p:Int)≤100000*7:=Int.mul_le_mul (by omega) (by omega) (by omega) (by omega)
 have h5:m*((p^k:Nat):Int)*1<m*((p^k:Nat):Int)*(p:Int):=Int.mul_lt_mul_of_pos_left (by omega) h2
 refine ⟨h2,by omega,?_,by unfold tyW;omega⟩
 unfold tyW;omega
set_option maxHeartbeats 16000000 in
theorem Hc (p:Nat) (m:Int) (D k:Nat) (l:List Int) (hp:2≤p) (hp2:p≤7) (hm:1<m) (hm2:m≤10000) (h1:1≤D) (hD:D≤10) (hk:p^k≤D) (hk2:D<p^(k+1)) (hk3:k≤3) (hl:l.length≤3):AFn Tryz.prog 115 [.int .i64 p,.int .i64 m,.int .i64 D,.sl false 2 (intL l)] (.sl true 27 (rowsO (tyL p m l D k))):=by
 refine fO Tryz.func115 Tryz.ntmps115 (by rw [Tryz.results115]) fun C hP hM hC=>?_
 obtain ⟨b1,b2,b3,b4⟩:=Am0 hp hp2 hm hm2 hk hD
 have h3:(ty3 l).length=3:=by rw [ty3,List.length_append,List.length_replicate];omega
 have hpk:1≤p^k:=Nat.le_trans Nat.one_le_two_pow (Nat.pow_le_pow_left hp k)
 have cM:=Gb p D k hp hp2 hk hk2 hk3 (by omega)
 have cT:=In l hl
 have eW:m*((p^k:Nat):Int)*(p:Int)=tyW p m k:=rfl
 have cN:=Ed p (tyW p m k) (ty3 l) hp hp2 (by omega) b4 (by omega)
 rw [h3] at cN
 have hA:=Gr (p:=p) (m:=tyW p m k) (by omega) (ty3 l) 3
 have cZ:AFn Tryz.prog 176 [.int .i64 D] (.sl true 27 (rowsO (zeT D))):=Ea D (by omega)
 generalize hW:tyW p m k=W at *
 generalize hAA:nuL p W (ty3 l) 3=A at *
 have p0:Pl W (D+1) (zeT D):=Vh (by omega) D
 have p1:Pl W (D+1) (put2 (zeT D) 0 1 1):=p0.put (by omega) 0 1
 have q1:IntKind.i64.wrap (m*((p^k:Nat):Int))=m*((p^k:Nat):Int):=wid _ (by omega) (by omega)
 have q2:IntKind.i64.wrap (m*((p^k:Nat):Int)*(p:Int))=W:=by rw [wid _ (by omega) (by omega),eW]
 have eI:put2 (put2 (zeT D) 0 1 1) 1 0 1=lwN p W k (p^k) A D 0:=rfl
 have zq1:(0:Int)<((D+1:Nat):Int):=(by omega);have zq2:(1:Int)<((D+1:Nat):Int):=(by omega);have zq3:(1:Int)<((D+1-0:Nat):Int):=(by omega);have zq4:(0:Int)<((D+1-1:Nat):Int):=(by omega);have zq5:(0:Int)<(D:Int):=(by omega);have zq6:(0:Int)≤1:=(by omega);have zq7:(1:Int).toNat=1:=rfl;have zq8:=Aw (zeT D) (0) (by rw [(p0).len];omega);have zq9:=A2 (zeT D) (0) (by rw [(p0).len];omega);have zq10:=Gk (zeT D) (0) (1) (1) (by rw [(p0).len];omega);have zq11:=Aw (zeT D) (1) (by rw [(p0).len];omega);have zq12:=A2 (zeT D) (1) (by rw [(p0).len];omega);have zq13:((zeT D).getD (1) []).getD (0) 0=pc (zeT D) (1) (0):=rfl;have zq14:=Aw (put2 (zeT D) 0 1 1) (1) (by rw [(p1).len];omega);have zq15:=A2 (put2 (zeT D) 0 1 1) (1) (by rw [(p1).len];omega);have zq16:=Gk (put2 (zeT D) 0 1 1) (1) (0) (1) (by rw [(p1).len];omega)
 (repeat (first|((with_reducible refine rC rfl fun K hK=>?_);simp only [go_sem,seval,↓reduceIte,q1,q2,zq1,zq2,zq3,zq4,zq5,Nat.add_sub_cancel,Int.natCast_nonneg,Int.toNat_natCast,Nat.mul_one,Int.le_refl,Int.toNat_zero,List.take_zero,Nat.zero_mul,zq6,zq7,Nat.sub_zero,At,(p0).len,zq8,zq9,(p0).row (0) (by omega),Ao ((zeT D).getD (0) []) (1) (by rw [(p0).row _ (by omega)];omega),Ai ((zeT D).getD (0) []) (1) (by rw [(p0).row _ (by omega)];omega),zq10,At,(p0).len,zq11,zq12,(p0).row (1) (by omega),Ao ((zeT D).getD (1) []) (0) (by rw [(p0).row _ (by omega)];omega),Ai ((zeT D).getD (1) []) (0) (by rw [(p0).row _ (by omega)];omega),zq13,At,(p1).len,zq14,zq15,(p1).row (1) (by omega),Ao ((put2 (zeT D) 0 1 1).getD (1) []) (0) (by rw [(p1).row _ (by omega)];omega),Ai ((put2 (zeT D) 0 1 1).getD (1) []) (0) (by rw [(p1).row _ (by omega)];omega),zq16,eI];(first|refine hK _ _ _ ?_|refine ⟨_,cM,hK _ _ _ ?_⟩|refine ⟨_,cT,hK _ _ _ ?_⟩|refine ⟨_,cN,hK _ _ _ ?_⟩|refine ⟨_,cZ,hK _ _ _ ?_⟩);clear hK K)|refine sT ?_))
 refine AWP.loop (fun j:Nat=>[(16,⟨0,.val (.int .i64 (j+2:Nat))⟩),(13,⟨1,.own (.sl true 27 (rowsO (lwN p W k (p^k) A D j)))⟩),(12,⟨1,.own (.sl true 2 (intL A))⟩),(11,⟨0,.val (.int .i64 W)⟩),(10,⟨0,.val (.int .i64 (p^k:Nat))⟩),(9,⟨0,.val (.int .i64 k)⟩),(0,⟨0,.val (.int .i64 p)⟩),(1,⟨0,.val (.int .i64 m)⟩),(2,⟨0,.val (.int .i64 D)⟩)]) (fun j=>j≤D-1) (fun j=>D-1-j) 0 (Nat.zero_le _) (fun j=>rfl) ?_ (fun j hj=>?_)
 ·simp [Sub,lk]
 ·have pj:=P7 (p:=p) (most:=k) (top:=p^k) (A:=A) (D:=D) b3 j
  by_cases h:j<D-1
  ·have cC:=Sh W (lwN p W k (p^k) A D j) (D+1) (j+2) pj (by omega) (by omega)
   have pc0:=U2 (k:=j+2+1) pj (by omega)
   have cR:=Qd p W k A (tab2 (j+2+1) (pc (lwN p W k (p^k) A D j))) (j+2) hp hp2 (by omega) b4 hk3 hA.2 (by rw [hA.1];omega) (by rw [hA.1];omega) pc0 (by omega) (by omega)
   have pR:=Tu (p:=p) (most:=k) (A:=A) (t:=tab2 (j+2+1) (pc (lwN p W k (p^k) A D j))) (D:=j+2) (show 0<W by omega) (k+1)
   have eL:∀ i,i=j+1→lwI W (p^k) (j+2) (rsT p W k A (tab2 (j+2+1) (pc (lwN p W k (p^k) A D j))) (j+2) (k+1)) (lwN p W k (p^k) A D j) i=lwN p W k (p^k) A D (j+1):=fun i hi=>by rw [hi,lwN]
   have pI:∀ i,Pl W (D+1) (lwI W (p^k) (j+2) (rsT p W k A (tab2 (j+2+1) (pc (lwN p W k (p^k) A D j))) (j+2) (k+1)) (lwN p W k (p^k) A D j) i):=fun i=>Qa (by omega) pj i
   generalize hRR:rsT p W k A (tab2 (j+2+1) (pc (lwN p W k (p^k) A D j))) (j+2) (k+1)=R at *
   have zq17:((j+2:Nat):Int)≤(D:Int):=(by omega)
   (repeat (first|((with_reducible refine rC rfl fun K hK=>?_);simp only [go_sem,seval,↓reduceIte,zq17];(first|refine hK _ _ _ ?_|refine ⟨_,cC,hK _ _ _ ?_⟩|refine ⟨_,cR,hK _ _ _ ?_⟩);clear hK K)|refine sT ?_))
   refine AWP.loop (fun i:Nat=>[(18,⟨0,.val (.int .i64 (i+1:Nat))⟩),(17,⟨1,.own (.sl true 27 (rowsO R))⟩),(16,⟨0,.val (.int .i64 (j+2:Nat))⟩),(13,⟨1,.own (.sl true 27 (rowsO (lwI W (p^k) (j+2) R (lwN p W k (p^k) A D j) i)))⟩),(12,⟨1,.own (.sl true 2 (intL A))⟩),(11,⟨0,.val (.int .i64 W)⟩),(10,⟨0,.val (.int .i64 (p^k:Nat))⟩),(9,⟨0,.val (.int .i64 k)⟩),(0,⟨0,.val (.int .i64 p)⟩),(1,⟨0,.val (.int .i64 m)⟩),(2,⟨0,.val (.int .i64 D)⟩)]) (fun i=>i≤j+1) (fun i=>j+1-i) 0 (Nat.zero_le _) (fun i=>rfl) ?_ (fun i hi=>?_)
   ·simp [Sub,lk,lwI]
   ·by_cases hij:i<j+1
    ·have pi:=pI i
     obtain ⟨y,hy⟩:∃ y,y=lwI W (p^k) (j+2) R (lwN p W k (p^k) A D j) i:=⟨_,rfl⟩
     have hn:=pR.num (i+1) (j+2-(i+1))
     have e2:(pc R (i+1) (j+2-(i+1))).tdiv ((p^k:Nat):Int)=pc R (i+1) (j+2-(i+1))/((p^k:Nat):Int):=Int.tdiv_eq_ediv_of_nonneg hn.1
     have hd:=Int.ediv_le_self ((p^k:Nat):Int) hn.1
     have hd0:=Int.ediv_nonneg hn.1 (show (0:Int)≤((p^k:Nat):Int) by omega)
     have cQ:=Dt W (0-pc R (i+1) (j+2-(i+1))/((p^k:Nat):Int)) (by omega) (by omega)
     have hx:=Ag (0-pc R (i+1) (j+2-(i+1))/((p^k:Nat):Int)) W (by omega)
     have eN:put2 (lwI W (p^k) (j+2) R (lwN p W k (p^k) A D j) i) (i+1) (j+2-(i+1)) ((0-pc R (i+1) (j+2-(i+1))/((p^k:Nat):Int))%W)=lwI W (p^k) (j+2) R (lwN p W k (p^k) A D j) (i+1):=rfl
     rw [← hy] at eN pi
     have s1:IntKind.i64.wrap (((j+2:Nat):Int)-((i+1:Nat):Int))=((j+2-(i+1):Nat):Int):=by rw [wid _ (by omega) (by omega)];omega
     generalize hcx:j+2-(i+1)=cx at *
     have hc1:cx+i+1=j+2:=by omega
     rw [← hy]
     have zq18:((i+1:Nat):Int)<((j+2:Nat):Int):=(by omega);have zq19:((i+1:Nat):Int)<((D+1:Nat):Int):=(by omega);have zq20:(cx:Int)<((D+1-(i+1):Nat):Int):=(by omega);have zq21:((i+1:Nat):Int)<((j+2+1:Nat):Int):=(by omega);have zq22:(cx:Int)<((j+2+1-(i+1):Nat):Int):=(by omega);have zq23:(cx:Int)<((D-i:Nat):Int):=(by omega);have zq24:(cx:Int)<((j+2-i:Nat):Int):=(by omega);have zq25:(0:Int)≤1:=(by omega);have zq26:(1:Int).toNat=1:=rfl;have zq27:=Aw (y) (i+1) (by rw [(pi).len];omega);have zq28:=A2 (y) (i+1) (by rw [(pi).len];omega);have zq29:=Gk (y) (i+1) (cx) ((0-pc R (i+1) cx/((p^k:Nat):Int))%W) (by rw [(pi).len];omega);have zq30:=Aw (R) (i+1) (by rw [(pR).len];omega);have zq31:=A2 (R) (i+1) (by rw [(pR).len];omega);have zq32:((R).getD (i+1) []).getD (cx) 0=pc (R) (i+1) (cx):=rfl;have zq33:((p^k:Nat):Int)≠0:=(by omega);have zq34:=wid (pc R (i+1) cx/((p^k:Nat):Int)) (by omega) (by omega);have zq35:=wid (0-pc R (i+1) cx/((p^k:Nat):Int)) (by omega) (by omega);have zq36:IntKind.i64.wrap (((i+1:Nat):Int)+1)=((i+1+1:Nat):Int):=(by rw [wid _ (by omega) (by omega)];omega)
     (repeat (first|((with_reducible refine rC rfl fun K hK=>?_);simp only [go_sem,seval,↓reduceIte,zq18,s1,zq19,zq20,zq21,zq22,zq23,zq24,Int.natCast_nonneg,Int.toNat_natCast,Nat.mul_one,Int.le_refl,Int.toNat_zero,List.take_zero,Nat.zero_mul,zq25,zq26,Nat.sub_zero,At,(pi).len,zq27,zq28,(pi).row (i+1) (by omega),Ao ((y).getD (i+1) []) (cx) (by rw [(pi).row _ (by omega)];omega),Ai ((y).getD (i+1) []) (cx) (by rw [(pi).row _ (by omega)];omega),zq29,At,(pR).len,zq30,zq31,(pR).row (i+1) (by omega),Ao ((R).getD (i+1) []) (cx) (by rw [(pR).row _ (by omega)];omega),Ai ((R).getD (i+1) []) (cx) (by rw [(pR).row _ (by omega)];omega),zq32,e2,zq33,zq34,zq35,eN,zq36];(first|refine hK _ _ _ ?_|refine ⟨_,cQ,hK _ _ _ ?_⟩);clear hK K)|refine sT ?_))
     exact ⟨i+1,by omega,by omega,by simp [Sub,lk]⟩
    ·obtain rfl:i=j+1:=by omega
     have zq37:¬ ((j+1+1:Nat):Int)<((j+2:Nat):Int):=(by omega);have zq38:IntKind.i64.wrap (((j+2:Nat):Int)+1)=((j+1+2:Nat):Int):=(by rw [wid _ (by omega) (by omega)];omega)
     (repeat (first|((with_reducible refine rC rfl fun K hK=>?_);simp only [go_sem,seval,↓reduceIte,zq37,zq38];refine hK _ _ _ ?_;clear hK K)|refine sT ?_))
     exact ⟨j+1,by omega,by omega,by rw [eL _ rfl];simp [Sub,lk]⟩
  ·obtain rfl:j=D-1:=by omega
   have zq39:¬ ((D-1+2:Nat):Int)≤(D:Int):=(by omega)
   (repeat (first|((with_reducible refine rC rfl fun K hK=>?_);simp only [go_sem,seval,↓reduceIte,zq39];refine hK _ _ _ ?_;clear hK K)|refine sT ?_))
   generalize hT:lwN p W k (p^k) A D (D-1)=t at *
   refine AWP.loop (fun v:Nat×Nat=>[(20,⟨0,.val (.int .i64 v.1)⟩),(13,⟨v.2,.own (.sl true 27 (rowsO (rmR m t v.1)))⟩),(1,⟨0,.val (.int .i64 m)⟩)]) (fun v=>v.1≤D+1) (fun v=>D+1-v.1) (0,1) (Nat.zero_le _) (fun i=>rfl) ?_ (fun v hv=>?_)
   ·simp [Sub,lk,rmR]
   ·obtain ⟨i,v⟩:=v
    simp only at hv ⊢
    have hll:(rmR m t i).length=D+1:=by rw [Hm,pj.len]
    by_cases hi:i<D+1
    ·have hrow : ((rmR m t i).getD i []).length ≤ 1000 := by
      rw [Ji,if_neg (by omega),pj.row i hi];omega
     have cL:=Q8 m ((rmR m t i).getD i []) (by omega) hrow
     have eS:(rmR m t i).set i (rmL m ((rmR m t i).getD i []))=rmR m t (i+1):=rfl
     have zq40:(i:Int)<((D+1:Nat):Int):=(by omega);have zq41:=Aw (rmR m t i) i (by omega);have zq42:=A2 (rmR m t i) i (by omega);have zq43:=wid ((i:Int)+1) (by omega) (by omega)
     (repeat (first|((with_reducible refine rC rfl fun K hK=>?_);simp only [go_sem,seval,↓reduceIte,At,hll,zq40,Int.natCast_nonneg,Int.toNat_natCast,Nat.mul_one,zq41,zq42,Ab8 (rmR m t i) i (rmL m ((rmR m t i).getD i [])) (fun _=>(.sl true 2 (intL (rmL m ((rmR m t i).getD i []))))) rfl (by omega),eS,zq43];(first|refine hK _ _ _ ?_|refine ⟨_,cL,hK _ _ _ ?_⟩);clear hK K)|refine sT ?_))
     exact ⟨(i+1,v+1),by simp only;omega,by simp only;omega,by simp [Sub,lk]⟩
    ·obtain rfl:i=D+1:=by omega
     have zq44:¬ ((D+1:Nat):Int)<((D+1:Nat):Int):=(by omega)
     (repeat (first|((with_reducible refine rC rfl fun K hK=>?_);simp only [go_sem,seval,↓reduceIte,At,hll,zq44];refine hK _ _ _ ?_;clear hK K)|refine sT ?_))
     refine rt1 ?_
     rw [tyL,hW,hAA,hT]
end Go.Proofs.YtapdekacpecgiaaGreat

import Derived.Test.YtapdekacpecgiaaGreatPa
import Derived.Test.YtapdekacpecgiaaGreatLa
import Derived.Test.YtapdekacpecgiaaGreatLd
import Derived.Test.YtapdekacpecgiaaGreatLcc
import Derived.Test.YtapdekacpecgiaaGreatTr
namespace Go.Proofs.YtapdekacpecgiaaGreat
open Go.RowKit
set_option linter.unusedSimpArgs false
set_option linter.unusedVariables false
set_option linter.unusedSectionVars false
set_option maxRecDepth 20000
set_option maxHeartbeats 1000000
def pc (ll:List (List Int)) (i j:Nat):Int:=at' (ll.getD i []) j
def tabR (n k:Nat) (f:Nat→Nat→Int):List (List Int):=(List.range k).map (fun i=>tab (n-i) (f i))
def tab2 (n:Nat) (f:Nat→Nat→Int):List (List Int):=tabR n n f
theorem En (n k:Nat) (f:Nat→Nat→Int):(tabR n k f).length=k:=by simp [tabR]
theorem Aq (n:Nat) (f:Nat→Nat→Int):(tab2 n f).length=n:=En n n f
theorem Iy (n:Nat) (f:Nat→Nat→Int):tabR n 0 f=[]:=rfl
theorem Fp (n k:Nat) (f:Nat→Nat→Int):tabR n k f++[tab (n-k) (f k)]=tabR n (k+1) f:=by simp [tabR,List.range_succ]
theorem B3 {n i:Nat} {f:Nat→Nat→Int} (h:i<n):(tab2 n f).getD i []=tab (n-i) (f i):=by simp [tab2,tabR,List.getD_eq_getElem?_getD,h]
theorem Bc {n i j:Nat} {f:Nat→Nat→Int} (h:i+j<n):pc (tab2 n f) i j=f i j:=by
 rw [pc,B3 (by omega),Bl (by omega)]
theorem Af2 {n i j:Nat} {f:Nat→Nat→Int} (h:n≤i+j):pc (tab2 n f) i j=0:=by
 by_cases hi:i<n
 ·rw [pc,B3 hi];exact Ts (by omega)
 ·rw [pc,List.getD_eq_getElem?_getD,List.getElem?_eq_none (by rw [Aq];omega)];rfl
theorem A5 {n:Nat} {f g:Nat→Nat→Int} (h:∀ i j,i+j<n→f i j=g i j):tab2 n f=tab2 n g:=by
 apply List.map_congr_left
 intro i hi
 exact Bn fun j hj=>h i j (by omega)
theorem Fl {n i j:Nat} {f g:Nat→Nat→Int} {v:Int} (h:∀ a b,a+b<n→(if a=i∧b=j then v else f a b)=g a b):(tab2 n f).set i ((tab (n-i) (f i)).set j v)=tab2 n g:=by
 apply List.ext_getElem?
 intro a
 by_cases ha:a<n
 ·rw [List.getElem?_set]
  by_cases e:i=a
  ·subst e
   rw [if_pos rfl,if_pos (by rw [Aq];exact ha)]
   simp only [tab2,tabR,List.getElem?_map,List.getElem?_range ha,Option.map_some]
   rw [H0 (g:=g i) (fun b hb=>?_)]
   have:=h i b (by omega)
   simpa using this
  ·rw [if_neg e]
   simp only [tab2,tabR,List.getElem?_map,List.getElem?_range ha,Option.map_some]
   rw [Bn (fun b hb=>?_)]
   have:=h a b (by omega)
   rw [if_neg (by omega)] at this
   exact this
 ·rw [List.getElem?_eq_none (by rw [List.length_set,Aq];omega),List.getElem?_eq_none (by rw [Aq];omega)]
structure Pl (m:Int) (n:Nat) (ll:List (List Int)):Prop where
 len:ll.length=n
 row:∀ i,i<n→(ll.getD i []).length=n-i
 num:∀ i j,0≤pc ll i j∧pc ll i j<m
theorem Pl.eq {m:Int} {n:Nat} {ll:List (List Int)} (h:Pl m n ll):ll=tab2 n (pc ll):=by
 apply List.ext_getElem?
 intro i
 by_cases hi:i<n
 ·have hl:i<ll.length:=by rw [h.len];exact hi
  have hr:=h.row i hi
  simp only [tab2,tabR,List.getElem?_map,List.getElem?_range hi,Option.map_some]
  have e:ll[i]? = some (ll.getD i []):=by rw [List.getD_eq_getElem?_getD,List.getElem?_eq_getElem hl];rfl
  rw [e,← hr]
  exact congrArg some (Ki _).symm
 ·rw [List.getElem?_eq_none (by rw [h.len];omega),List.getElem?_eq_none (by rw [Aq];omega)]
theorem Pl.tab2 {m:Int} {n:Nat} {f:Nat→Nat→Int} (hm:0<m) (h:∀ i j,i+j<n→0≤f i j∧f i j<m):Pl m n (tab2 n f):=
 ⟨Aq n f,fun i hi=>by rw [B3 hi,Ae],fun i j=>by
  by_cases hij:i+j<n
  ·rw [Bc hij];exact h i j hij
  ·rw [Af2 (by omega)];omega⟩
theorem Pl.rowNum {m:Int} {n:Nat} {ll:List (List Int)} (h:Pl m n ll) (i:Nat):∀ x∈ll.getD i [],0≤x∧x<m:=by
 intro x hx
 obtain ⟨j,hj,rfl⟩:=List.getElem_of_mem hx
 have:=h.num i j
 rwa [pc,at',Hr _ j hj] at this
def cv2 (a b:Nat→Nat→Int) (u v:Nat):Int:=sm (u+1) (fun i=>sm (v+1) (fun j=>a i j*b (u-i) (v-j)))
def qI (a b:Nat→Nat→Int) (i u v:Nat):Int:=sm i (fun i'=>if i'≤u then sm (v+1) (fun j'=>a i' j'*b (u-i') (v-j')) else 0)
def qJ (a b:Nat→Nat→Int) (i j u v:Nat):Int:=qI a b i u v+(if i≤u then sm j (fun j'=>if j'≤v then a i j'*b (u-i) (v-j') else 0) else 0)
theorem M3 (a b:Nat→Nat→Int) (i u v:Nat):qJ a b i 0 u v=qI a b i u v:=by simp [qJ,sm]
theorem Yz (a b:Nat→Nat→Int) (u v:Nat):qI a b 0 u v=0:=rfl
theorem Qg {a b:Nat→Nat→Int} {i j u v:Nat} (h:a i j=0∨v<j∨u<i):qJ a b i (j+1) u v=qJ a b i j u v:=by
 unfold qJ
 by_cases h1:i≤u
 ·rw [if_pos h1,if_pos h1]
  congr 1
  rw [show sm (j+1) (fun j'=>if j'≤v then a i j'*b (u-i) (v-j') else 0)=sm j (fun j'=>if j'≤v then a i j'*b (u-i) (v-j') else 0)+(if j≤v then a i j*b (u-i) (v-j) else 0) from rfl]
  rcases h with h2|h2|h2
  ·rw [h2];simp
  ·rw [if_neg (by omega)];omega
  ·omega
 ·rw [if_neg h1,if_neg h1]
theorem Acy {a b:Nat→Nat→Int} {m:Int} {i j k l:Nat}:(qJ a b i j (i+k) (j+l)%m+a i j*b k l)%m=qJ a b i (j+1) (i+k) (j+l)%m:=by
 have e:qJ a b i (j+1) (i+k) (j+l)=qJ a b i j (i+k) (j+l)+a i j*b k l:=by
  unfold qJ
  rw [if_pos (by omega),if_pos (by omega)]
  rw [show sm (j+1) (fun j'=>if j'≤j+l then a i j'*b (i+k-i) (j+l-j') else 0)=sm j (fun j'=>if j'≤j+l then a i j'*b (i+k-i) (j+l-j') else 0)+(if j≤j+l then a i j*b (i+k-i) (j+l-j) else 0) from rfl]
  rw [if_pos (by omega),Nat.add_sub_cancel_left,Nat.add_sub_cancel_left]
  omega
 rw [e,Int.emod_add_emod]
theorem Al6 {a b:Nat→Nat→Int} {i u v q:Nat} (h:v<q):qJ a b i q u v=qI a b (i+1) u v:=by
 unfold qJ
 rw [show qI a b (i+1) u v=qI a b i u v+(if i≤u then sm (v+1) (fun j'=>a i j'*b (u-i) (v-j')) else 0) from rfl]
 congr 1
 split
 ·rw [Df (n:=q) (c:=v+1) (by omega) (fun j h1 h2=>by rw [if_neg (by omega)])]
  exact As fun j hj=>by rw [if_pos (by omega)]
 ·rfl
theorem Al4 {a b:Nat→Nat→Int} {n u v:Nat} (h:u<n):qI a b n u v=cv2 a b u v:=by
 unfold qI cv2
 rw [Df (n:=n) (c:=u+1) (by omega) (fun j h1 h2=>by rw [if_neg (by omega)])]
 exact As fun j hj=>by rw [if_pos (by omega)]
def qL (a b:Nat→Nat→Int) (m:Int) (i j k l u v:Nat):Int:=if (i≤u∧u<i+k∧j≤v)∨(u=i+k∧j≤v∧v<j+l) then qJ a b i (j+1) u v%m else qJ a b i j u v%m
theorem Tj (a b:Nat→Nat→Int) (m:Int) (i j u v:Nat):qL a b m i j 0 0 u v=qJ a b i j u v%m:=by
 unfold qL;rw [if_neg (by omega)]
theorem Aiv (a b:Nat→Nat→Int) (m:Int) (i j k l:Nat):qL a b m i j k l (i+k) (j+l)=qJ a b i j (i+k) (j+l)%m:=by
 unfold qL;rw [if_neg (by omega)]
theorem Adl (a b:Nat→Nat→Int) (m:Int) (i j k l u v:Nat):(if u=i+k∧v=j+l then qJ a b i (j+1) (i+k) (j+l)%m else qL a b m i j k l u v)=qL a b m i j k (l+1) u v:=by
 unfold qL
 by_cases h:u=i+k∧v=j+l
 ·rw [if_pos h,if_pos (by omega),h.1,h.2]
 ·rw [if_neg h]
  by_cases h2:(i≤u∧u<i+k∧j≤v)∨(u=i+k∧j≤v∧v<j+l)
  ·rw [if_pos h2,if_pos (by omega)]
  ·rw [if_neg h2,if_neg (by omega)]
theorem Ad5 {a b:Nat→Nat→Int} {m:Int} {n i j k l u v:Nat} (h:n≤i+j+k+l) (huv:u+v<n):qL a b m i j k l u v=qL a b m i j (k+1) 0 u v:=by
 unfold qL
 by_cases h2:(i≤u∧u<i+k∧j≤v)∨(u=i+k∧j≤v∧v<j+l)
 ·rw [if_pos h2,if_pos (by omega)]
 ·rw [if_neg h2,if_neg (by omega)]
theorem Ael {a b:Nat→Nat→Int} {m:Int} {n i j k u v:Nat} (h:n≤i+j+k) (huv:u+v<n):qL a b m i j k 0 u v=qJ a b i (j+1) u v%m:=by
 unfold qL
 by_cases h2:(i≤u∧u<i+k∧j≤v)∨(u=i+k∧j≤v∧v<j+0)
 ·rw [if_pos h2]
 ·rw [if_neg h2,Qg (by omega)]
def pmul (m:Int) (n:Nat) (a b:Nat→Nat→Int):List (List Int):=tab2 n (fun u v=>cv2 a b u v%m)
theorem Qy {m:Int} (hm:0<m) (n:Nat) (a b:Nat→Nat→Int):Pl m n (pmul m n a b):=Pl.tab2 hm fun _ _ _=>Ag _ m hm
theorem Vl {m:Int} {n:Nat} {a b:Nat→Nat→Int}:tab2 n (fun u v=>qJ a b n 0 u v%m)=pmul m n a b:=A5 fun u v h=>by rw [M3,Al4 (by omega)]
theorem Za {m:Int} {n i q:Nat} {a b:Nat→Nat→Int} (h:n≤i+q):tab2 n (fun u v=>qJ a b i q u v%m)=tab2 n (fun u v=>qJ a b (i+1) 0 u v%m):=A5 fun u v h2=>by
 rw [M3]
 by_cases hu:i≤u
 ·rw [Al6 (by omega)]
 ·have e1:qJ a b i q u v=qI a b i u v:=by unfold qJ;rw [if_neg hu];omega
  have e2:qI a b (i+1) u v=qI a b i u v:=by
   rw [show qI a b (i+1) u v=qI a b i u v+(if i≤u then sm (v+1) (fun j'=>a i j'*b (u-i) (v-j')) else 0) from rfl,if_neg hu];omega
  rw [e1,e2]
theorem widK (q:Nat) (h:q≤9000000000000000000):IntKind.i64.wrap (q:Int)=(q:Int):=wid _ (by omega) (by omega)
theorem Em (a:List (List Int)) (l:List Int):rowsO a++[.sl true 2 (intL l)]=rowsO (a++[l]):=by simp [rowsO]
theorem A2 (ll:List (List Int)) (i:Nat) (h:i<ll.length):(rowsO ll)[i]? = some (.sl true 2 (intL (ll.getD i []))):=by
 simp [rowsO,List.getD_eq_getElem?_getD,h]
theorem Aw (ll:List (List Int)) (i:Nat) (h:i≤ll.length):T.sizeL ((rowsO ll).take i)=i:=by
 rw [Bj (n:=1) (fun t ht=>by
  have ht:=List.mem_of_mem_take ht
  simp only [rowsO,List.mem_map] at ht
  obtain ⟨x,_,rfl⟩:=ht
  rfl)]
 simp [At];omega
theorem C9 (ll:List (List Int)) (i j:Nat) (v:Int) (h:i<ll.length):(rowsO ll).modify i ((T.int .i64 v).set [j])=rowsO (ll.set i ((ll.getD i []).set j v)):=by
 apply List.ext_getElem?
 intro a
 rw [List.getElem?_modify]
 by_cases e:i=a
 ·subst e
  rw [A2 _ _ h,A2 _ _ (by rw [List.length_set];exact h)]
  have e2:(ll.set i ((ll.getD i []).set j v)).getD i []=(ll.getD i []).set j v:=by
   rw [List.getD_eq_getElem?_getD,List.getElem?_set_self h];rfl
  simp only [if_true,Option.map_eq_map,Option.map_some,T.set]
  rw [e2,B7]
 ·simp only [rowsO,if_neg e,List.getElem?_map,List.getElem?_set_ne e,Option.map_eq_map]
  cases ll[a]? <;> rfl
theorem Ea (d:Nat) (hd:d≤1000):AFn Tryz.prog 176 [.int .i64 d] (.sl true 27 (rowsO (tab2 (d+1) (fun _ _=>0)))):=by
 refine fO Tryz.func176 Tryz.ntmps176 (by rw [Tryz.results176]) fun C hP hM hC=>?_
 (repeat (first|((with_reducible refine rC rfl fun K hK=>?_);simp only [go_sem,seval,↓reduceIte];refine hK _ _ _ ?_;clear hK K)|refine sT ?_))
 refine AWP.loop (fun w:Nat×Nat=>[(4,⟨0,.val (.int .i64 w.1)⟩),(3,⟨w.2,.own (.sl true 27 (rowsO (tabR (d+1) w.1 (fun _ _=>0))))⟩),(0,⟨0,.val (.int .i64 d)⟩)]) (fun w=>w.1≤d+1) (fun w=>d+1-w.1) (0,1) (Nat.zero_le _) (fun i=>rfl) ?_ (fun w hw=>?_)
 ·simp [Sub,lk,Iy,rowsO]
 ·obtain ⟨i,v⟩:=w
  simp only at hw ⊢
  by_cases hi:i≤d
  ·have u1:IntKind.i64.wrap ((d:Int)-(i:Int))=((d-i:Nat):Int):=by rw [wid _ (by omega) (by omega)];omega
   have u2:IntKind.i64.wrap (((d-i:Nat):Int)+1)=((d+1-i:Nat):Int):=by rw [wid _ (by omega) (by omega)];omega
   have hs:=Fp (d+1) i (fun _ _=>0)
   (repeat (first|((with_reducible refine rC rfl fun K hK=>?_);simp only [go_sem,seval,↓reduceIte,show (i:Int)≤(d:Int) by omega,u1,u2,Int.toNat_natCast,Int.natCast_nonneg,show ((d+1-i:Nat):Int)≤1099511627776 by omega,C6,Fk,En,Em,hs,show i+1≤1099511627776 by omega,show (i+1)*24≤140737488355328 by omega,wid ((i:Int)+1) (by omega) (by omega)];refine hK _ _ _ ?_;clear hK K)|refine sT ?_))
   exact ⟨(i+1,v+1),by simp only;omega,by simp only;omega,by simp [Sub,lk]⟩
  ·(repeat (first|((with_reducible refine rC rfl fun K hK=>?_);simp only [go_sem,seval,↓reduceIte,show ¬ (i:Int)≤(d:Int) by omega];refine hK _ _ _ ?_;clear hK K)|refine sT ?_))
   refine rt1 ?_
   rw [show i=d+1 by omega];rfl
theorem A3 (m:Int) (ll:List (List Int)) (hl:ll.length≤1099511627776):AFn Tryz.prog 99 [.agg [.int .i64 m,.sl false 27 (rowsF ll)]] (.int .i64 ((ll.length:Int)-1)):=by
 refine fO Tryz.func99 Tryz.ntmps99 (by rw [Tryz.results99]) fun C hP hM hC=>?_
 (repeat (first|((with_reducible refine rC rfl fun K hK=>?_);simp only [go_sem,seval,↓reduceIte,Aa,wid ((ll.length:Int)-1) (by omega) (by omega)];refine hK _ _ _ ?_;clear hK K)|refine sT ?_))
 refine rt1 ?_
 rfl
theorem Cf (m:Int) (d:Nat) (hd:d≤1000):AFn Tryz.prog 186 [.int .i64 m,.int .i64 d] (.agg [.int .i64 m,.sl true 27 (rowsO (tab2 (d+1) (fun _ _=>0)))]):=by
 refine fO Tryz.func186 Tryz.ntmps186 (by rw [Tryz.results186]) fun C hP hM hC=>?_
 (repeat (first|((with_reducible refine rC rfl fun K hK=>?_);simp only [go_sem,seval,↓reduceIte,wid ((d:Int)+1) (by omega) (by omega)];refine hK _ _ _ ?_;clear hK K)|refine sT ?_))
 refine AWP.loop (fun w:Nat×Nat=>match w with
  | (0,v)=>[(11,⟨0,.val (.int .i64 0)⟩),(10,⟨0,.val (.int .i64 ((d:Int)+1))⟩),(5,⟨v,.own (.box 26 (.agg [.int .i64 m,.nil]))⟩),(1,⟨0,.val (.int .i64 d)⟩),(4,⟨1,.own (.box 26 (.agg [.int .i64 0,.nil]))⟩)]
  | (i+1,v)=>[(11,⟨0,.val (.int .i64 (i+1:Nat))⟩),(10,⟨0,.val (.int .i64 ((d:Int)+1))⟩),(5,⟨v,.own (.box 26 (.agg [.int .i64 m,.sl true 27 (rowsO (tabR (d+1) (i+1) (fun _ _=>0)))]))⟩),(1,⟨0,.val (.int .i64 d)⟩),(4,⟨1,.own (.box 26 (.agg [.int .i64 0,.nil]))⟩)]) (fun w=>w.1≤d+1) (fun w=>d+1-w.1) (0,2) (Nat.zero_le _) (fun i=>by obtain ⟨i,v⟩:=i;cases i <;> rfl) ?_ (fun w hw=>?_)
 ·simp [Sub,lk]
 ·obtain ⟨i,v⟩:=w
  simp only at hw
  have u1:IntKind.i64.wrap ((d:Int)+1)=((d+1:Nat):Int):=by rw [wid _ (by omega) (by omega)];omega
  by_cases hi:i≤d
  ·have u2:IntKind.i64.wrap (((d+1:Nat):Int)-(i:Int))=((d+1-i:Nat):Int):=by rw [wid _ (by omega) (by omega)];omega
   have hs:=Fp (d+1) i (fun _ _=>0)
   cases i with
   | zero=>
    have u3:IntKind.i64.wrap (((d+1:Nat):Int)-0)=((d+1:Nat):Int):=by rw [wid _ (by omega) (by omega)];omega
    simp only
    (repeat (first|((with_reducible refine rC rfl fun K hK=>?_);simp only [go_sem,seval,↓reduceIte,show (0:Int)<(d:Int)+1 by omega,u1,u3,Int.toNat_natCast,Int.natCast_nonneg,show ((d+1:Nat):Int)≤1099511627776 by omega,C6,Fk];refine hK _ _ _ ?_;clear hK K)|refine sT ?_))
    exact ⟨(1,v+1),by simp only;omega,by simp only;omega,by simp [Sub,lk,tabR,rowsO,show IntKind.i64.wrap 1=1 by decide]⟩
   | succ i=>
    simp only
    have u2:IntKind.i64.wrap (((d+1:Nat):Int)-((i+1:Nat):Int))=((d-i:Nat):Int):=by rw [wid _ (by omega) (by omega)];omega
    have hs:tabR (d+1) (i+1) (fun _ _=>0)++[tab (d-i) (fun _=>0)]=tabR (d+1) (i+1+1) (fun _ _=>0):=by
     have:=Fp (d+1) (i+1) (fun _ _=>0)
     rwa [show d+1-(i+1)=d-i by omega] at this
    (repeat (first|((with_reducible refine rC rfl fun K hK=>?_);simp only [go_sem,seval,↓reduceIte,show ((i+1:Nat):Int)<(d:Int)+1 by omega,u1,u2,Int.toNat_natCast,Int.natCast_nonneg,show ((d-i:Nat):Int)≤1099511627776 by omega,C6,Fk,En,Em,hs,show i+1+1≤1099511627776 by omega,show (i+1+1)*24≤140737488355328 by omega,wid (((i+1:Nat):Int)+1) (by omega) (by omega)];refine hK _ _ _ ?_;clear hK K)|refine sT ?_))
    exact ⟨(i+1+1,v+1),by simp only;omega,by simp only;omega,by simp [Sub,lk]⟩
  ·have e:i=d+1:=by omega
   subst e
   simp only
   (repeat (first|((with_reducible refine rC rfl fun K hK=>?_);simp only [go_sem,seval,↓reduceIte,show ¬ ((d+1:Nat):Int)<(d:Int)+1 by omega];refine hK _ _ _ ?_;clear hK K)|refine sT ?_))
   refine rt1 ?_
   rfl
set_option maxHeartbeats 4000000 in
theorem E7 (m:Int) (la lb:List (List Int)) (n:Nat) (hm:0<m) (hm2:m≤1000000) (ha:Pl m n la) (hb:Pl m n lb) (hn:1≤n) (hn2:n≤1000):AFn Tryz.prog 192 [.int .i64 m,.sl false 27 (rowsF la),.sl false 27 (rowsF lb)] (.sl true 27 (rowsO (pmul m n (pc la) (pc lb)))):=by
 refine fO Tryz.func192 Tryz.ntmps192 (by rw [Tryz.results192]) fun C hP hM hC=>?_
 have hm0:m≠0:=by omega
 have hZ0:=Ea (n-1) (by omega)
 rw [show n-1+1=n by omega] at hZ0
 have e0:tab2 n (fun _ _=>0)=tab2 n (fun u v=>qJ (pc la) (pc lb) 0 0 u v%m):=A5 fun u v _=>by rw [M3,Yz,Int.zero_emod]
 rw [e0] at hZ0
 (repeat (first|((with_reducible refine rC rfl fun K hK=>?_);simp only [go_sem,seval,↓reduceIte,Aa,ha.len,show IntKind.i64.wrap ((n:Int)-1)=((n-1:Nat):Int) by rw [wid _ (by omega) (by omega)];omega];(first|refine hK _ _ _ ?_|refine ⟨_,hZ0,hK _ _ _ ?_⟩);clear hK K)|refine sT ?_))
 refine AWP.loop (fun i:Nat=>[(9,⟨0,.val (.int .i64 i)⟩),(8,⟨1,.own (.sl true 27 (rowsO (tab2 n (fun u v=>qJ (pc la) (pc lb) i 0 u v%m))))⟩),(7,⟨0,.val (.int .i64 n)⟩),(0,⟨0,.val (.int .i64 m)⟩),(1,⟨0,.val (.sl false 27 (rowsF la))⟩),(2,⟨0,.val (.sl false 27 (rowsF lb))⟩)]) (fun i=>i≤n) (fun i=>n-i) 0 (Nat.zero_le _) (fun i=>rfl) ?_ (fun i hi=>?_)
 ·simp [Sub,lk]
 ·by_cases hin:i<n
  ·(repeat (first|((with_reducible refine rC rfl fun K hK=>?_);simp only [go_sem,seval,↓reduceIte,show (i:Int)<(n:Int) by omega];refine hK _ _ _ ?_;clear hK K)|refine sT ?_))
   refine AWP.loop (fun j:Nat=>[(10,⟨0,.val (.int .i64 j)⟩),(9,⟨0,.val (.int .i64 i)⟩),(8,⟨1,.own (.sl true 27 (rowsO (tab2 n (fun u v=>qJ (pc la) (pc lb) i j u v%m))))⟩),(7,⟨0,.val (.int .i64 n)⟩),(0,⟨0,.val (.int .i64 m)⟩),(1,⟨0,.val (.sl false 27 (rowsF la))⟩),(2,⟨0,.val (.sl false 27 (rowsF lb))⟩)]) (fun j=>i+j≤n) (fun j=>n-j) 0 (by omega) (fun i=>rfl) ?_ (fun j hj=>?_)
   ·simp [Sub,lk]
   ·have w1:=widK (i+j) (by omega)
    by_cases hjn:i+j<n
    ·have hrow:=ha.row i hin
     have hj1:j<(la.getD i []).length:=by omega
     have hx:=ha.num i j
     by_cases h0:pc la i j=0
     ·have hE:tab2 n (fun u v=>qJ (pc la) (pc lb) i (j+1) u v%m)=tab2 n (fun u v=>qJ (pc la) (pc lb) i j u v%m):=A5 fun u v _=>by rw [Qg (.inl h0)]
      (repeat (first|((with_reducible refine rC rfl fun K hK=>?_);simp only [go_sem,seval,↓reduceIte,← Int.natCast_add,w1,show ((i+j:Nat):Int)<(n:Int) by omega,Ad la i (by rw [ha.len];exact hin),Aa,ha.len,Int.toNat_natCast,Int.natCast_nonneg,show (i:Int)<(n:Int) by omega,Ac _ j hj1,hrow,show ((j:Nat):Int)<((n-i:Nat):Int) by omega,show (la.getD i []).getD j 0=pc la i j from rfl,h0,show ((0:Int)==0)=true from rfl,wid ((j:Int)+1) (by omega) (by omega)];refine hK _ _ _ ?_;clear hK K)|refine sT ?_))
      exact ⟨j+1,by omega,by omega,by simp only [hE];simp [Sub,lk]⟩
     ·(repeat (first|((with_reducible refine rC rfl fun K hK=>?_);simp only [go_sem,seval,↓reduceIte,← Int.natCast_add,w1,show ((i+j:Nat):Int)<(n:Int) by omega,Ad la i (by rw [ha.len];exact hin),Aa,ha.len,Int.toNat_natCast,Int.natCast_nonneg,show (i:Int)<(n:Int) by omega,Ac _ j hj1,hrow,show ((j:Nat):Int)<((n-i:Nat):Int) by omega,show (la.getD i []).getD j 0=pc la i j from rfl,show (pc la i j==0)=false by simpa using h0];refine hK _ _ _ ?_;clear hK K)|refine sT ?_))
      have e1:tab2 n (fun u v=>qJ (pc la) (pc lb) i j u v%m)=tab2 n (fun u v=>qL (pc la) (pc lb) m i j 0 0 u v):=A5 fun u v _=>(Tj _ _ _ _ _ _ _).symm
      refine AWP.loop (fun k:Nat=>[(11,⟨0,.val (.int .i64 k)⟩),(10,⟨0,.val (.int .i64 j)⟩),(9,⟨0,.val (.int .i64 i)⟩),(8,⟨1,.own (.sl true 27 (rowsO (tab2 n (fun u v=>qL (pc la) (pc lb) m i j k 0 u v))))⟩),(7,⟨0,.val (.int .i64 n)⟩),(0,⟨0,.val (.int .i64 m)⟩),(1,⟨0,.val (.sl false 27 (rowsF la))⟩),(2,⟨0,.val (.sl false 27 (rowsF lb))⟩)]) (fun k=>i+j+k≤n) (fun k=>n-k) 0 (by omega) (fun i=>rfl) ?_ (fun k hk=>?_)
      ·simp [Sub,lk,← e1]
      ·have w2:=widK (i+j+k) (by omega)
       have w3:=widK (i+k) (by omega)
       by_cases hkn:i+j+k<n
       ·have hik:i+k<(tab2 n (fun u v=>qL (pc la) (pc lb) m i j k 0 u v)).length:=by rw [Aq];omega
        (repeat (first|((with_reducible refine rC rfl fun K hK=>?_);simp only [go_sem,seval,↓reduceIte,← Int.natCast_add,w1,w2,w3,show ((i+j+k:Nat):Int)<(n:Int) by omega,A2 _ _ hik,Aw _ _ (Nat.le_of_lt hik),At,Aq,Nat.mul_one,show ((i+k:Nat):Int)<(n:Int) by omega,Ad lb k (by rw [hb.len];omega),Aa,hb.len,Int.toNat_natCast,Int.natCast_nonneg,show (k:Int)<(n:Int) by omega];refine hK _ _ _ ?_;clear hK K)|refine sT ?_))
        refine AWP.loop (fun l:Nat=>[(14,⟨0,.val (.int .i64 l)⟩),(13,⟨0,.val (.sl false 2 (intL (lb.getD k [])))⟩),(12,⟨0,.val (.ref 8 1 [i+k])⟩),(11,⟨0,.val (.int .i64 k)⟩),(10,⟨0,.val (.int .i64 j)⟩),(9,⟨0,.val (.int .i64 i)⟩),(8,⟨1,.own (.sl true 27 (rowsO (tab2 n (fun u v=>qL (pc la) (pc lb) m i j k l u v))))⟩),(7,⟨0,.val (.int .i64 n)⟩),(0,⟨0,.val (.int .i64 m)⟩),(1,⟨0,.val (.sl false 27 (rowsF la))⟩),(2,⟨0,.val (.sl false 27 (rowsF lb))⟩)]) (fun l=>i+j+k+l≤n) (fun l=>n-l) 0 (by omega) (fun i=>rfl) ?_ (fun l hl=>?_)
        ·simp [Sub,lk]
        ·have w4:=widK (i+j+k+l) (by omega)
         have w5:=widK (j+l) (by omega)
         by_cases hln:i+j+k+l<n
         ·have hikl:i+k<(tab2 n (fun u v=>qL (pc la) (pc lb) m i j k l u v)).length:=by rw [Aq];omega
          have hcol:j+l<(tab (n-(i+k)) (qL (pc la) (pc lb) m i j k l (i+k))).length:=by rw [Ae];omega
          have hrb:=hb.row k (by omega)
          have hl1:l<(lb.getD k []).length:=by omega
          have hy:=hb.num k l
          have hxy:=Ee hx.1 hx.2 hy.1 hy.2 hm2
          have hp:=Ag (qJ (pc la) (pc lb) i j (i+k) (j+l)) m hm
          have g1:(tab (n-(i+k)) (qL (pc la) (pc lb) m i j k l (i+k))).getD (j+l) 0=qJ (pc la) (pc lb) i j (i+k) (j+l)%m:=by rw [Es (by omega),Aiv]
          have hst:(tab2 n (fun u v=>qL (pc la) (pc lb) m i j k l u v)).set (i+k) ((tab (n-(i+k)) (qL (pc la) (pc lb) m i j k l (i+k))).set (j+l) (qJ (pc la) (pc lb) i (j+1) (i+k) (j+l)%m))=tab2 n (fun u v=>qL (pc la) (pc lb) m i j k (l+1) u v):=Fl (fun a b _=>Adl _ _ _ i j k l a b)
          (repeat (first|((with_reducible refine rC rfl fun K hK=>?_);simp only [go_sem,seval,↓reduceIte,← Int.natCast_add,w1,w2,w4,w5,show ((i+j+k+l:Nat):Int)<(n:Int) by omega,A2 _ _ hikl,Aw _ _ (Nat.le_of_lt hikl),At,Aq,B3 (show i+k<n by omega),Nat.mul_one,Ao _ _ hcol,Ai _ _ (Nat.le_of_lt hcol),Ae,show ((j+l:Nat):Int)<((n-(i+k):Nat):Int) by omega,g1,Ad la i (by rw [ha.len];exact hin),Aa,ha.len,hrow,Int.toNat_natCast,Int.natCast_nonneg,show (i:Int)<(n:Int) by omega,Ac _ j hj1,show ((j:Nat):Int)<((n-i:Nat):Int) by omega,show (la.getD i []).getD j 0=pc la i j from rfl,Ac _ l hl1,hrb,show (l:Int)<((n-k:Nat):Int) by omega,show (lb.getD k []).getD l 0=pc lb k l from rfl,wid (pc la i j*pc lb k l) (by omega) (by omega),wid (qJ (pc la) (pc lb) i j (i+k) (j+l)%m+pc la i j*pc lb k l) (by omega) (by omega),tm (qJ (pc la) (pc lb) i j (i+k) (j+l)%m+pc la i j*pc lb k l) m (by omega),Acy,hm0,C9 _ _ _ _ hikl,hst,wid ((l:Int)+1) (by omega) (by omega)];refine hK _ _ _ ?_;clear hK K)|refine sT ?_))
          exact ⟨l+1,by omega,by omega,by simp [Sub,lk]⟩
         ·have hE:tab2 n (fun u v=>qL (pc la) (pc lb) m i j k l u v)=tab2 n (fun u v=>qL (pc la) (pc lb) m i j (k+1) 0 u v):=A5 fun u v huv=>Ad5 (by omega) huv
          (repeat (first|((with_reducible refine rC rfl fun K hK=>?_);simp only [go_sem,seval,↓reduceIte,← Int.natCast_add,w1,w2,w4,show ¬ ((i+j+k+l:Nat):Int)<(n:Int) by omega,wid ((k:Int)+1) (by omega) (by omega)];refine hK _ _ _ ?_;clear hK K)|refine sT ?_))
          exact ⟨k+1,by omega,by omega,by simp only [hE];simp [Sub,lk]⟩
       ·have hE:tab2 n (fun u v=>qL (pc la) (pc lb) m i j k 0 u v)=tab2 n (fun u v=>qJ (pc la) (pc lb) i (j+1) u v%m):=A5 fun u v huv=>Ael (by omega) huv
        (repeat (first|((with_reducible refine rC rfl fun K hK=>?_);simp only [go_sem,seval,↓reduceIte,← Int.natCast_add,w1,w2,show ¬ ((i+j+k:Nat):Int)<(n:Int) by omega,wid ((j:Int)+1) (by omega) (by omega)];refine hK _ _ _ ?_;clear hK K)|refine sT ?_))
        exact ⟨j+1,by omega,by omega,by simp only [hE];simp [Sub,lk]⟩
    ·have hE:=Za (m:=m) (n:=n) (i:=i) (q:=j) (a:=pc la) (b:=pc lb) (by omega)
     (repeat (first|((with_reducible refine rC rfl fun K hK=>?_);simp only [go_sem,seval,↓reduceIte,← Int.natCast_add,w1,show ¬ ((i+j:Nat):Int)<(n:Int) by omega,wid ((i:Int)+1) (by omega) (by omega)];refine hK _ _ _ ?_;clear hK K)|refine sT ?_))
     exact ⟨i+1,by omega,by omega,by simp only [hE];simp [Sub,lk]⟩
  ·have hie:i=n:=by omega
   subst hie
   (repeat (first|((with_reducible refine rC rfl fun K hK=>?_);simp only [go_sem,seval,↓reduceIte,show ¬ (i:Int)<(i:Int) by omega];refine hK _ _ _ ?_;clear hK K)|refine sT ?_))
   refine rt1 ?_
   rw [Vl]
theorem Ph (m:Int) (la lb:List (List Int)) (n:Nat) (hm:0<m) (hm2:m≤10000) (ha:Pl m n la) (hb:Pl m n lb) (hn:1≤n) (hn2:n≤1000):AFn Tryz.prog 192 [.int .i64 m,.sl false 27 (rowsF la),.sl false 27 (rowsF lb)] (.sl true 27 (rowsO (pmul m n (pc la) (pc lb)))):=E7 m la lb n hm (by omega) ha hb hn hn2
theorem Ae3 (l:List Int) (k:Nat):(intL l).take k=intL (l.take k):=by simp [intL]
set_option maxHeartbeats 4000000 in
theorem F2 (m:Int) (la lb:List (List Int)) (n:Nat) (hm:0<m) (hm2:m≤1099511627776) (ha:Pl m n la) (hb:Pl m n lb) (hn:1≤n) (hn2:n≤1000):AFn Tryz.prog 191 [.agg [.int .i64 m,.sl false 27 (rowsF la)],.agg [.int .i64 m,.sl false 27 (rowsF lb)]] (.agg [.int .i64 m,.sl true 27 (rowsO (pmul m n (pc la) (pc lb)))]):=by
 refine fO Tryz.func191 Tryz.ntmps191 (by rw [Tryz.results191]) fun C hP hM hC=>?_
 have hm0:m≠0:=by omega
 have hZ0:=Cf m (n-1) (by omega)
 rw [show n-1+1=n by omega] at hZ0
 have e0:tab2 n (fun _ _=>0)=tab2 n (fun u v=>qJ (pc la) (pc lb) 0 0 u v%m):=A5 fun u v _=>by rw [M3,Yz,Int.zero_emod]
 rw [e0] at hZ0
 have hD:=A3 m la (by rw [ha.len];omega)
 rw [ha.len,show (n:Int)-1=((n-1:Nat):Int) by omega] at hD
 (repeat (first|((with_reducible refine rC rfl fun K hK=>?_);simp only [go_sem,seval,↓reduceIte,Aa,ha.len];(first|refine hK _ _ _ ?_|refine ⟨_,hD,hK _ _ _ ?_⟩|refine ⟨_,hZ0,hK _ _ _ ?_⟩);clear hK K)|refine sT ?_))
 refine AWP.loop (fun i:Nat=>[(24,⟨0,.val (.int .i64 i)⟩),(23,⟨0,.val (.int .i64 n)⟩),(22,⟨0,.val (.sl false 27 (rowsF la))⟩),(5,⟨2,.own (.box 26 (.agg [.int .i64 m,.sl true 27 (rowsO (tab2 n (fun u v=>qJ (pc la) (pc lb) i 0 u v%m)))]))⟩),(6,⟨0,.val (.int .i64 (n-1:Nat))⟩),(2,⟨1,.own (.box 26 (.agg [.int .i64 m,.sl false 27 (rowsF la)]))⟩),(3,⟨1,.own (.box 26 (.agg [.int .i64 m,.sl false 27 (rowsF lb)]))⟩),(4,⟨1,.own (.box 26 (.agg [.int .i64 0,.nil]))⟩)]) (fun i=>i≤n) (fun i=>n-i) 0 (Nat.zero_le _) (fun i=>rfl) ?_ (fun i hi=>?_)
 ·simp [Sub,lk]
 ·by_cases hin:i<n
  ·have hrow:=ha.row i hin
   (repeat (first|((with_reducible refine rC rfl fun K hK=>?_);simp only [go_sem,seval,↓reduceIte,show (i:Int)<(n:Int) by omega,Ad la i (by rw [ha.len];exact hin),Aa,ha.len,Int.toNat_natCast,Int.natCast_nonneg,hrow];refine hK _ _ _ ?_;clear hK K)|refine sT ?_))
   refine AWP.loop (fun j:Nat=>[(31,⟨0,.val (.int .i64 j)⟩),(30,⟨0,.val (.int .i64 (n-i:Nat))⟩),(29,⟨0,.val (.sl false 2 (intL (la.getD i [])))⟩),(7,⟨0,.val (.int .i64 i)⟩),(24,⟨0,.val (.int .i64 i)⟩),(23,⟨0,.val (.int .i64 n)⟩),(22,⟨0,.val (.sl false 27 (rowsF la))⟩),(5,⟨2,.own (.box 26 (.agg [.int .i64 m,.sl true 27 (rowsO (tab2 n (fun u v=>qJ (pc la) (pc lb) i j u v%m)))]))⟩),(6,⟨0,.val (.int .i64 (n-1:Nat))⟩),(2,⟨1,.own (.box 26 (.agg [.int .i64 m,.sl false 27 (rowsF la)]))⟩),(3,⟨1,.own (.box 26 (.agg [.int .i64 m,.sl false 27 (rowsF lb)]))⟩),(4,⟨1,.own (.box 26 (.agg [.int .i64 0,.nil]))⟩)]) (fun j=>i+j≤n) (fun j=>n-j) 0 (by omega) (fun i=>rfl) ?_ (fun j hj=>?_)
   ·simp [Sub,lk]
   ·by_cases hjn:i+j<n
    ·have hj1:j<(la.getD i []).length:=by omega
     have hx:=ha.num i j
     by_cases h0:pc la i j=0
     ·have hE:tab2 n (fun u v=>qJ (pc la) (pc lb) i (j+1) u v%m)=tab2 n (fun u v=>qJ (pc la) (pc lb) i j u v%m):=A5 fun u v _=>by rw [Qg (.inl h0)]
      (repeat (first|((with_reducible refine rC rfl fun K hK=>?_);simp only [go_sem,seval,↓reduceIte,show (j:Int)<((n-i:Nat):Int) by omega,Int.toNat_natCast,Int.natCast_nonneg,Ac _ j hj1,hrow,show (la.getD i []).getD j 0=pc la i j from rfl,h0,show ((0:Int)==0)=true from rfl,wid ((j:Int)+1) (by omega) (by omega)];refine hK _ _ _ ?_;clear hK K)|refine sT ?_))
      exact ⟨j+1,by omega,by omega,by simp only [hE];simp [Sub,lk]⟩
     ·(repeat (first|((with_reducible refine rC rfl fun K hK=>?_);simp only [go_sem,seval,↓reduceIte,show (j:Int)<((n-i:Nat):Int) by omega,Int.toNat_natCast,Int.natCast_nonneg,Ac _ j hj1,hrow,show (la.getD i []).getD j 0=pc la i j from rfl,show (pc la i j==0)=false by simpa using h0];refine hK _ _ _ ?_;clear hK K)|refine sT ?_))
      have e1:tab2 n (fun u v=>qJ (pc la) (pc lb) i j u v%m)=tab2 n (fun u v=>qL (pc la) (pc lb) m i j 0 0 u v):=A5 fun u v _=>(Tj _ _ _ _ _ _ _).symm
      refine AWP.loop (fun k:Nat=>[(11,⟨0,.val (.int .i64 k)⟩),(9,⟨0,.val (.int .i64 j)⟩),(10,⟨0,.val (.int .i64 (pc la i j))⟩),(31,⟨0,.val (.int .i64 j)⟩),(30,⟨0,.val (.int .i64 (n-i:Nat))⟩),(29,⟨0,.val (.sl false 2 (intL (la.getD i [])))⟩),(7,⟨0,.val (.int .i64 i)⟩),(24,⟨0,.val (.int .i64 i)⟩),(23,⟨0,.val (.int .i64 n)⟩),(22,⟨0,.val (.sl false 27 (rowsF la))⟩),(5,⟨2,.own (.box 26 (.agg [.int .i64 m,.sl true 27 (rowsO (tab2 n (fun u v=>qL (pc la) (pc lb) m i j k 0 u v)))]))⟩),(6,⟨0,.val (.int .i64 (n-1:Nat))⟩),(2,⟨1,.own (.box 26 (.agg [.int .i64 m,.sl false 27 (rowsF la)]))⟩),(3,⟨1,.own (.box 26 (.agg [.int .i64 m,.sl false 27 (rowsF lb)]))⟩),(4,⟨1,.own (.box 26 (.agg [.int .i64 0,.nil]))⟩)]) (fun k=>i+j+k≤n) (fun k=>n-k) 0 (by omega) (fun i=>rfl) ?_ (fun k hk=>?_)
      ·simp [Sub,lk,← e1]
      ·have w1:=widK (i+j) (by omega)
       have w2:=widK (i+j+k) (by omega)
       by_cases hkn:i+j+k<n
       ·have hrb:=hb.row k (by omega)
        have s1:IntKind.i64.wrap (((n-1:Nat):Int)-(i:Int))=((n-1-i:Nat):Int):=by rw [wid _ (by omega) (by omega)];omega
        have s2:IntKind.i64.wrap (((n-1-i:Nat):Int)-(j:Int))=((n-1-i-j:Nat):Int):=by rw [wid _ (by omega) (by omega)];omega
        have s3:IntKind.i64.wrap (((n-1-i-j:Nat):Int)-(k:Int))=((n-1-i-j-k:Nat):Int):=by rw [wid _ (by omega) (by omega)];omega
        have s4:IntKind.i64.wrap (((n-1-i-j-k:Nat):Int)+1)=((n-i-j-k:Nat):Int):=by rw [wid _ (by omega) (by omega)];omega
        (repeat (first|((with_reducible refine rC rfl fun K hK=>?_);simp only [go_sem,seval,↓reduceIte,← Int.natCast_add,w1,w2,show ((i+j+k:Nat):Int)≤((n-1:Nat):Int) by omega,Ad lb k (by rw [hb.len];omega),Aa,hb.len,Int.toNat_natCast,Int.natCast_nonneg,show (k:Int)<(n:Int) by omega,s1,s2,s3,s4,hrb,show ((n-i-j-k:Nat):Int)≤((n-k:Nat):Int) by omega,List.drop_zero,Nat.sub_zero,Int.toNat_zero,Int.le_refl,Ae3,List.length_take,Nat.min_eq_left (show n-i-j-k≤n-k by omega)];refine hK _ _ _ ?_;clear hK K)|refine sT ?_))
        have htl:((lb.getD k []).take (n-i-j-k)).length=n-i-j-k:=by rw [List.length_take,hrb];omega
        refine AWP.loop (fun l:Nat=>[(62,⟨0,.val (.int .i64 l)⟩),(61,⟨0,.val (.int .i64 (n-i-j-k:Nat))⟩),(60,⟨0,.val (.sl false 2 (intL ((lb.getD k []).take (n-i-j-k))))⟩),(11,⟨0,.val (.int .i64 k)⟩),(9,⟨0,.val (.int .i64 j)⟩),(10,⟨0,.val (.int .i64 (pc la i j))⟩),(31,⟨0,.val (.int .i64 j)⟩),(30,⟨0,.val (.int .i64 (n-i:Nat))⟩),(29,⟨0,.val (.sl false 2 (intL (la.getD i [])))⟩),(7,⟨0,.val (.int .i64 i)⟩),(24,⟨0,.val (.int .i64 i)⟩),(23,⟨0,.val (.int .i64 n)⟩),(22,⟨0,.val (.sl false 27 (rowsF la))⟩),(5,⟨2,.own (.box 26 (.agg [.int .i64 m,.sl true 27 (rowsO (tab2 n (fun u v=>qL (pc la) (pc lb) m i j k l u v)))]))⟩),(6,⟨0,.val (.int .i64 (n-1:Nat))⟩),(2,⟨1,.own (.box 26 (.agg [.int .i64 m,.sl false 27 (rowsF la)]))⟩),(3,⟨1,.own (.box 26 (.agg [.int .i64 m,.sl false 27 (rowsF lb)]))⟩),(4,⟨1,.own (.box 26 (.agg [.int .i64 0,.nil]))⟩)]) (fun l=>i+j+k+l≤n) (fun l=>n-l) 0 (by omega) (fun i=>rfl) ?_ (fun l hl=>?_)
        ·simp [Sub,lk]
        ·by_cases hln:i+j+k+l<n
         ·have w3:=widK (i+k) (by omega)
          have w5:=widK (j+l) (by omega)
          have hikl:i+k<(tab2 n (fun u v=>qL (pc la) (pc lb) m i j k l u v)).length:=by rw [Aq];omega
          have hcol:j+l<(tab (n-(i+k)) (qL (pc la) (pc lb) m i j k l (i+k))).length:=by rw [Ae];omega
          have hl1:l<((lb.getD k []).take (n-i-j-k)).length:=by omega
          have hy:=hb.num k l
          have hM2:=Cv m (pc la i j) (pc lb k l) hm (by omega) hx.1 hx.2 hy.1 hy.2
          have hz:=Ag (pc la i j*pc lb k l) m hm
          have hp:=Ag (qJ (pc la) (pc lb) i j (i+k) (j+l)) m hm
          have g1:(tab (n-(i+k)) (qL (pc la) (pc lb) m i j k l (i+k))).getD (j+l) 0=qJ (pc la) (pc lb) i j (i+k) (j+l)%m:=by rw [Es (by omega),Aiv]
          have g2:((lb.getD k []).take (n-i-j-k)).getD l 0=pc lb k l:=by simp [pc,at',List.getD_eq_getElem?_getD,List.getElem?_take_of_lt (show l<n-i-j-k by omega)]
          have g3:(qJ (pc la) (pc lb) i j (i+k) (j+l)%m+pc la i j*pc lb k l%m)%m=qJ (pc la) (pc lb) i (j+1) (i+k) (j+l)%m:=by rw [Int.add_emod_emod,Acy]
          have hst:(tab2 n (fun u v=>qL (pc la) (pc lb) m i j k l u v)).set (i+k) ((tab (n-(i+k)) (qL (pc la) (pc lb) m i j k l (i+k))).set (j+l) (qJ (pc la) (pc lb) i (j+1) (i+k) (j+l)%m))=tab2 n (fun u v=>qL (pc la) (pc lb) m i j k (l+1) u v):=Fl (fun a b _=>Adl _ _ _ i j k l a b)
          (repeat (first|((with_reducible refine rC rfl fun K hK=>?_);simp only [go_sem,seval,↓reduceIte,show (l:Int)<((n-i-j-k:Nat):Int) by omega,Ac _ l hl1,htl,Int.toNat_natCast,Int.natCast_nonneg,g2,← Int.natCast_add,w3,w5,A2 _ _ hikl,Aw _ _ (Nat.le_of_lt hikl),At,Aq,B3 (show i+k<n by omega),show ((i+k:Nat):Int)<(n:Int) by omega,Nat.mul_one,Ao _ _ hcol,Ai _ _ (Nat.le_of_lt hcol),Ae,show ((j+l:Nat):Int)<((n-(i+k):Nat):Int) by omega,g1,wid (qJ (pc la) (pc lb) i j (i+k) (j+l)%m+pc la i j*pc lb k l%m) (by omega) (by omega),tm (qJ (pc la) (pc lb) i j (i+k) (j+l)%m+pc la i j*pc lb k l%m) m (by omega),g3,hm0,C9 _ _ _ _ hikl,hst,wid ((l:Int)+1) (by omega) (by omega)];(first|refine hK _ _ _ ?_|refine ⟨_,hM2,hK _ _ _ ?_⟩);clear hK K)|refine sT ?_))
          exact ⟨l+1,by omega,by omega,by simp [Sub,lk]⟩
         ·have hE:tab2 n (fun u v=>qL (pc la) (pc lb) m i j k l u v)=tab2 n (fun u v=>qL (pc la) (pc lb) m i j (k+1) 0 u v):=A5 fun u v huv=>Ad5 (by omega) huv
          (repeat (first|((with_reducible refine rC rfl fun K hK=>?_);simp only [go_sem,seval,↓reduceIte,show ¬ (l:Int)<((n-i-j-k:Nat):Int) by omega,wid ((k:Int)+1) (by omega) (by omega)];refine hK _ _ _ ?_;clear hK K)|refine sT ?_))
          exact ⟨k+1,by omega,by omega,by simp only [hE];simp [Sub,lk]⟩
       ·have hE:tab2 n (fun u v=>qL (pc la) (pc lb) m i j k 0 u v)=tab2 n (fun u v=>qJ (pc la) (pc lb) i (j+1) u v%m):=A5 fun u v huv=>Ael (by omega) huv
        (repeat (first|((with_reducible refine rC rfl fun K hK=>?_);simp only [go_sem,seval,↓reduceIte,← Int.natCast_add,w1,w2,show ¬ ((i+j+k:Nat):Int)≤((n-1:Nat):Int) by omega,wid ((j:Int)+1) (by omega) (by omega)];refine hK _ _ _ ?_;clear hK K)|refine sT ?_))
        exact ⟨j+1,by omega,by omega,by simp only [hE];simp [Sub,lk]⟩
    ·have hE:=Za (m:=m) (n:=n) (i:=i) (q:=j) (a:=pc la) (b:=pc lb) (by omega)
     (repeat (first|((with_reducible refine rC rfl fun K hK=>?_);simp only [go_sem,seval,↓reduceIte,show ¬ (j:Int)<((n-i:Nat):Int) by omega,wid ((i:Int)+1) (by omega) (by omega)];refine hK _ _ _ ?_;clear hK K)|refine sT ?_))
     exact ⟨i+1,by omega,by omega,by simp only [hE];simp [Sub,lk]⟩
  ·have hie:i=n:=by omega
   subst hie
   (repeat (first|((with_reducible refine rC rfl fun K hK=>?_);simp only [go_sem,seval,↓reduceIte,show ¬ (i:Int)<(i:Int) by omega];refine hK _ _ _ ?_;clear hK K)|refine sT ?_))
   refine rt1 ?_
   rw [Vl]
theorem Mp (m:Int) (la lb:List (List Int)) (n:Nat) (hm:0<m) (hm2:m≤10000) (ha:Pl m n la) (hb:Pl m n lb) (hn:1≤n) (hn2:n≤1000):AFn Tryz.prog 191 [.agg [.int .i64 m,.sl false 27 (rowsF la)],.agg [.int .i64 m,.sl false 27 (rowsF lb)]] (.agg [.int .i64 m,.sl true 27 (rowsO (pmul m n (pc la) (pc lb)))]):=F2 m la lb n hm (by omega) ha hb hn hn2
def numP (m c:Int) (n:Nat):List (List Int):=tab2 n (fun u v=>if u=0∧v=0 then c%m else 0)
theorem Y9 {m:Int} (hm:0<m) (c:Int) (n:Nat):Pl m n (numP m c n):=Pl.tab2 hm fun u v _=>by
 split
 ·exact Ag _ m hm
 ·omega
theorem D7 (m c:Int) (ll:List (List Int)) (n:Nat) (hm:0<m) (hm2:m≤1099511627776) (hl:ll.length=n) (hn:1≤n) (hn2:n≤1000):AFn Tryz.prog 172 [.agg [.int .i64 m,.sl false 27 (rowsF ll)],.int .i64 c] (.agg [.int .i64 m,.sl true 27 (rowsO (numP m c n))]):=by
 refine fO Tryz.func172 Tryz.ntmps172 (by rw [Tryz.results172]) fun C hP hM hC=>?_
 have hZ0:=Cf m (n-1) (by omega)
 rw [show n-1+1=n by omega] at hZ0
 have hD:=A3 m ll (by omega)
 rw [hl,show (n:Int)-1=((n-1:Nat):Int) by omega] at hD
 have h0:0<(tab2 n (fun _ _=>0)).length:=by rw [Aq];omega
 have hrow:(tab2 n (fun _ _=>0)).getD 0 []=tab n (fun _=>0):=by rw [B3 (by omega),Nat.sub_zero]
 have h1:0<(tab n (fun _=>(0:Int))).length:=by rw [Ae];omega
 have hst:(tab2 n (fun _ _=>0)).set 0 ((tab n (fun _=>0)).set 0 (c%m))=numP m c n:=Fl (fun a b _=>rfl)
 (repeat (first|((with_reducible refine rC rfl fun K hK=>?_);simp only [go_sem,seval,↓reduceIte,Int.le_refl,Int.toNat_zero,A2 _ _ h0,Aw _ _ (Nat.le_of_lt h0),At,Aq,show (0:Int)<(n:Int) by omega,hrow,List.take_zero,Rk,Nat.zero_mul,Nat.mul_one,Ao _ _ h1,Ai _ _ (Nat.le_of_lt h1),Ae,Nat.sub_zero,C9 _ _ _ _ h0,hst];(first|refine hK _ _ _ ?_|refine ⟨_,hD,hK _ _ _ ?_⟩|refine ⟨_,hZ0,hK _ _ _ ?_⟩|refine ⟨_,Cr c m hm (by omega),hK _ _ _ ?_⟩);clear hK K)|refine sT ?_))
 refine rt1 ?_
 rfl
theorem Lg (m c:Int) (ll:List (List Int)) (n:Nat) (hm:0<m) (hm2:m≤10000) (hl:ll.length=n) (hn:1≤n) (hn2:n≤1000):AFn Tryz.prog 172 [.agg [.int .i64 m,.sl false 27 (rowsF ll)],.int .i64 c] (.agg [.int .i64 m,.sl true 27 (rowsO (numP m c n))]):=D7 m c ll n hm (by omega) hl hn hn2
def pwP (m:Int) (n:Nat) (t:Nat→Nat→Int):Nat→List (List Int)
 | 0=>numP m 1 n
 | k+1=>pmul m n (pc (pwP m n t k)) t
theorem Tl {m:Int} (hm:0<m) (n:Nat) (t:Nat→Nat→Int):∀ k,Pl m n (pwP m n t k)
 | 0=>Y9 hm 1 n
 | k+1=>Qy hm n _ _
def plO (m:Int) (L:List (List (List Int))):List T:=L.map fun ll=>(.agg [.int .i64 m,.sl true 27 (rowsO ll)])
def plF (m:Int) (L:List (List (List Int))):List T:=L.map fun ll=>(.agg [.int .i64 m,.sl false 27 (rowsF ll)])
theorem J2 (m:Int) (L:List (List (List Int))):(plO m L).length=L.length:=by simp [plO]
theorem Ky (m:Int) (L:List (List (List Int))):(plF m L).length=L.length:=by simp [plF]
theorem Amx (m:Int) (L:List (List (List Int))) (i:Nat) (h:i<L.length):(plO m L)[i]? = some (.agg [.int .i64 m,.sl true 27 (rowsO (L.getD i []))]):=by
 simp [plO,List.getD_eq_getElem?_getD,h]
theorem Tq (m:Int) (L:List (List (List Int))) (i:Nat) (h:i<L.length):(plF m L).getD i .any=(.agg [.int .i64 m,.sl false 27 (rowsF (L.getD i []))]):=by
 simp [plF,List.getD_eq_getElem?_getD,h]
theorem Afg (m:Int) (L:List (List (List Int))) (i:Nat) (h:i≤L.length):T.sizeL ((plO m L).take i)=i*2:=by
 rw [Bj (n:=2) (fun t ht=>by
  have ht:=List.mem_of_mem_take ht
  simp only [plO,List.mem_map] at ht
  obtain ⟨x,_,rfl⟩:=ht
  rfl)]
 simp [J2];omega
theorem Agz (m:Int) (L:List (List (List Int))) (ll:List (List Int)):plO m L++[.agg [.int .i64 m,.sl true 27 (rowsO ll)]]=plO m (L++[ll]):=by simp [plO]
theorem Nv (m:Int):∀ (L:List (List (List Int))),T.refFreeL (plO m L)=true
 | []=>rfl
 | ll::L=>by
  have:=Nv m L
  simp only [plO,List.map_cons,T.refFreeL,T.refFree,Bool.and_true,Bool.true_and] at this ⊢
  simp [this,K5]
theorem Km (m:Int):∀ (L:List (List (List Int))),T.freezeL (plO m L)=plF m L
 | []=>rfl
 | ll::L=>by
  have:=Km m L
  simp only [plO,plF,List.map_cons,T.freezeL,T.freeze] at this ⊢
  rw [this,F3]
theorem H9 (m:Int):∀ (L:List (List (List Int))),T.pureL (plF m L)=true
 | []=>rfl
 | ll::L=>by
  have:=H9 m L
  simp only [plF,List.map_cons,T.pureL,T.pure,Bool.and_true,Bool.true_and] at this ⊢
  simp [this,Ca]
theorem Afk (m:Int) (L:List (List (List Int))):T.noOwnL (plF m L)=true:=B9 _ (H9 m L)
theorem V5 (m:Int) (L:List (List (List Int))):T.refFreeL (plF m L)=true:=Bo _ (H9 m L)
theorem Yp (m:Int):∀ (L:List (List (List Int))),T.noFL (plO m L)=true
 | []=>rfl
 | ll::L=>by
  have:=Yp m L
  simp only [plO,List.map_cons,T.noFL,T.noF,Bool.and_true,Bool.true_and] at this ⊢
  simp [this,L6]
attribute [go_sem] Km Nv Yp H9 Afk V5 J2 Ky
def pwL2 (m:Int) (n:Nat) (t:Nat→Nat→Int) (k:Nat):List (List (List Int)):=(List.range k).map (pwP m n t)
theorem Ek (m:Int) (n:Nat) (t:Nat→Nat→Int) (k:Nat):(pwL2 m n t k).length=k:=by simp [pwL2]
theorem L9 {m:Int} {n:Nat} {t:Nat→Nat→Int} {k i:Nat} (h:i<k):(pwL2 m n t k).getD i []=pwP m n t i:=by simp [pwL2,List.getD_eq_getElem?_getD,h]
theorem Ady (m:Int) (n:Nat) (t:Nat→Nat→Int) (k:Nat):pwL2 m n t k++[pwP m n t k]=pwL2 m n t (k+1):=by simp [pwL2,List.range_succ]
set_option maxHeartbeats 1000000 in
theorem Ll (m:Int) (ll:List (List Int)) (n:Nat) (hm:0<m) (hm2:m≤10000) (hl:Pl m n ll) (hn:1≤n) (hn2:n≤1000):AFn Tryz.prog 250 [.agg [.int .i64 m,.sl false 27 (rowsF ll)]] (.sl true 26 (plO m (pwL2 m n (pc ll) n))):=by
 refine fO Tryz.func250 Tryz.ntmps250 (by rw [Tryz.results250]) fun C hP hM hC=>?_
 have hD:=A3 m ll (by rw [hl.len];omega)
 rw [hl.len,show (n:Int)-1=((n-1:Nat):Int) by omega] at hD
 (repeat (first|((with_reducible refine rC rfl fun K hK=>?_);simp only [go_sem,seval,↓reduceIte];(first|refine hK _ _ _ ?_|refine ⟨_,hD,hK _ _ _ ?_⟩|refine ⟨_,Lg m 1 ll n hm hm2 hl.len hn hn2,hK _ _ _ ?_⟩);clear hK K)|refine sT ?_))
 refine AWP.loop (fun w:Nat×Nat=>[(9,⟨0,.val (.int .i64 w.1)⟩),(8,⟨1,.val (.int .i64 (n-1:Nat))⟩),(3,⟨w.2,.own (.sl true 26 (plO m (pwL2 m n (pc ll) (w.1+1))))⟩),(1,⟨1,.own (.box 26 (.agg [.int .i64 m,.sl false 27 (rowsF ll)]))⟩)]) (fun w=>w.1+1≤n) (fun w=>n-w.1) (0,1) (by simp only;omega) (fun i=>rfl) ?_ (fun w hw=>?_)
 ·simp [Sub,lk,pwL2,pwP,plO]
 ·obtain ⟨i,v⟩:=w
  simp only at hw ⊢
  by_cases hi:i+1<n
  ·have hT:=Mp m (pwP m n (pc ll) i) ll n hm hm2 (Tl hm n _ i) hl hn hn2
   have hii:i<(pwL2 m n (pc ll) (i+1)).length:=by rw [Ek];omega
   have hs:=Ady m n (pc ll) (i+1)
   rw [pwP] at hs
   (repeat (first|((with_reducible refine rC rfl fun K hK=>?_);simp only [go_sem,seval,↓reduceIte,show (i:Int)<((n-1:Nat):Int) by omega,J2,Ek,show IntKind.i64.wrap (((i+1:Nat):Int)-1)=(i:Int) by rw [wid _ (by omega) (by omega)];omega,Int.toNat_natCast,Int.natCast_nonneg,show (i:Int)<((i+1:Nat):Int) by omega,Amx _ _ _ hii,Afg _ _ _ (Nat.le_of_lt hii),L9 (show i<i+1 by omega),Jf,Agz,hs,show i+1+1≤1099511627776 by omega,show (i+1+1)*32≤140737488355328 by omega,wid ((i:Int)+1) (by omega) (by omega)];(first|refine hK _ _ _ ?_|refine ⟨_,hT,hK _ _ _ ?_⟩);clear hK K)|refine sT ?_))
   exact ⟨(i+1,v+1),by simp only;omega,by simp only;omega,by simp [Sub,lk]⟩
  ·(repeat (first|((with_reducible refine rC rfl fun K hK=>?_);simp only [go_sem,seval,↓reduceIte,show ¬ (i:Int)<((n-1:Nat):Int) by omega];refine hK _ _ _ ?_;clear hK K)|refine sT ?_))
   refine rt1 ?_
   rw [show n=i+1 by omega]
def aftL (m:Int) (n:Nat) (t:Nat→Nat→Int) (c:List Int):Nat→List (List Int)
 | 0=>tab2 n (fun _ _=>0)
 | k+1=>tab2 n (fun u v=>if u=0∧v=0 then (cv2 (pc (aftL m n t c k)) t 0 0%m+at' c (c.length-1-k))%m else cv2 (pc (aftL m n t c k)) t u v%m)
theorem Gj {m:Int} (hm:0<m) (n:Nat) (t:Nat→Nat→Int) (c:List Int):∀ k,Pl m n (aftL m n t c k)
 | 0=>Pl.tab2 hm fun _ _ _=>by omega
 | k+1=>Pl.tab2 hm fun u v _=>by split <;> exact Ag _ m hm
theorem Ox (m:Int) (ll:List (List Int)) (n c:Nat) (hl:Pl m n ll) (hc:c≤n) (hn2:n≤1000):AFn Tryz.prog 256 [.sl false 27 (rowsF ll),.int .i64 c] (.sl true 2 (intL (tab (n-c) (fun i=>pc ll i c)))):=by
 refine fO Tryz.func256 Tryz.ntmps256 (by rw [Tryz.results256]) fun C hP hM hC=>?_
 (repeat (first|((with_reducible refine rC rfl fun K hK=>?_);simp only [go_sem,seval,↓reduceIte];refine hK _ _ _ ?_;clear hK K)|refine sT ?_))
 refine AWP.loop (fun w:Nat×Nat=>[(6,⟨0,.val (.int .i64 w.1)⟩),(5,⟨w.2,.own (.sl true 2 (intL (tab w.1 (fun i=>pc ll i c))))⟩),(0,⟨0,.val (.sl false 27 (rowsF ll))⟩),(1,⟨0,.val (.int .i64 c)⟩)]) (fun w=>w.1+c≤n) (fun w=>n-w.1) (0,1) (by simp only;omega) (fun i=>rfl) ?_ (fun w hw=>?_)
 ·simp [Sub,lk,Ri,intL]
 ·obtain ⟨i,v⟩:=w
  simp only at hw ⊢
  have w1:=widK (i+c) (by omega)
  by_cases hi:i+c<n
  ·have hr:=hl.row i (by omega)
   have hj:c<(ll.getD i []).length:=by omega
   have hs:=Gn i (fun i=>pc ll i c)
   (repeat (first|((with_reducible refine rC rfl fun K hK=>?_);simp only [go_sem,seval,↓reduceIte,← Int.natCast_add,w1,Aa,hl.len,show ((i+c:Nat):Int)<(n:Int) by omega,Ad ll i (by rw [hl.len];omega),Int.toNat_natCast,Int.natCast_nonneg,show (i:Int)<(n:Int) by omega,Ac _ _ hj,hr,show (c:Int)<((n-i:Nat):Int) by omega,show (ll.getD i []).getD c 0=pc ll i c from rfl,Ae,Bt,hs,show i+1≤1099511627776 by omega,show (i+1)*8≤140737488355328 by omega,wid ((i:Int)+1) (by omega) (by omega)];refine hK _ _ _ ?_;clear hK K)|refine sT ?_))
   exact ⟨(i+1,v+1),by simp only;omega,by simp only;omega,by simp [Sub,lk]⟩
  ·(repeat (first|((with_reducible refine rC rfl fun K hK=>?_);simp only [go_sem,seval,↓reduceIte,← Int.natCast_add,w1,Aa,hl.len,show ¬ ((i+c:Nat):Int)<(n:Int) by omega];refine hK _ _ _ ?_;clear hK K)|refine sT ?_))
   refine rt1 ?_
   rw [show i=n-c by omega]
set_option maxHeartbeats 1000000 in
theorem Iz (m:Int) (c:List Int) (ll:List (List Int)) (n:Nat) (hm:0<m) (hm2:m≤10000) (hl:Pl m n ll) (hc:∀ x∈c,0≤x∧x<m) (hcl:c.length≤1000) (hn:1≤n) (hn2:n≤1000):AFn Tryz.prog 93 [.int .i64 m,.sl false 2 (intL c),.sl false 27 (rowsF ll)] (.sl true 27 (rowsO (aftL m n (pc ll) c c.length))):=by
 refine fO Tryz.func93 Tryz.ntmps93 (by rw [Tryz.results93]) fun C hP hM hC=>?_
 have hZ0:=Ea (n-1) (by omega)
 rw [show n-1+1=n by omega] at hZ0
 (repeat (first|((with_reducible refine rC rfl fun K hK=>?_);simp only [go_sem,seval,↓reduceIte,Aa,hl.len,show IntKind.i64.wrap ((n:Int)-1)=((n-1:Nat):Int) by rw [wid _ (by omega) (by omega)];omega,wid ((c.length:Int)-1) (by omega) (by omega)];(first|refine hK _ _ _ ?_|refine ⟨_,hZ0,hK _ _ _ ?_⟩);clear hK K)|refine sT ?_))
 refine AWP.loop (fun w:Nat×Nat=>[(8,⟨0,.val (.int .i64 ((c.length:Int)-1-(w.1:Int)))⟩),(7,⟨w.2,.own (.sl true 27 (rowsO (aftL m n (pc ll) c w.1)))⟩),(0,⟨0,.val (.int .i64 m)⟩),(1,⟨0,.val (.sl false 2 (intL c))⟩),(2,⟨0,.val (.sl false 27 (rowsF ll))⟩)]) (fun w=>w.1≤c.length) (fun w=>c.length-w.1) (0,1) (Nat.zero_le _) (fun i=>rfl) ?_ (fun w hw=>?_)
 ·simp [Sub,lk,aftL]
 ·obtain ⟨k,v⟩:=w
  simp only at hw ⊢
  by_cases hk:k<c.length
  ·have hT:=Ph m (aftL m n (pc ll) c k) ll n hm hm2 (Gj hm n _ c k) hl hn hn2
   have h0:0<(pmul m n (pc (aftL m n (pc ll) c k)) (pc ll)).length:=by rw [pmul,Aq];omega
   have hrow:(pmul m n (pc (aftL m n (pc ll) c k)) (pc ll)).getD 0 []=tab n (fun v=>cv2 (pc (aftL m n (pc ll) c k)) (pc ll) 0 v%m):=by rw [pmul,B3 (by omega),Nat.sub_zero]
   have h1:0<(tab n (fun v=>cv2 (pc (aftL m n (pc ll) c k)) (pc ll) 0 v%m)).length:=by rw [Ae];omega
   have g1:(tab n (fun v=>cv2 (pc (aftL m n (pc ll) c k)) (pc ll) 0 v%m)).getD 0 0=cv2 (pc (aftL m n (pc ll) c k)) (pc ll) 0 0%m:=Es (by omega)
   have hx:=A4 hc hm (c.length-1-k)
   have hp:=Ag (cv2 (pc (aftL m n (pc ll) c k)) (pc ll) 0 0) m hm
   have hpl:(pmul m n (pc (aftL m n (pc ll) c k)) (pc ll)).length=n:=Aq n _
   have hst:(pmul m n (pc (aftL m n (pc ll) c k)) (pc ll)).set 0 ((tab n (fun v=>cv2 (pc (aftL m n (pc ll) c k)) (pc ll) 0 v%m)).set 0 ((cv2 (pc (aftL m n (pc ll) c k)) (pc ll) 0 0%m+at' c (c.length-1-k))%m))=aftL m n (pc ll) c (k+1):=Fl (fun a b _=>rfl)
   (repeat (first|((with_reducible refine rC rfl fun K hK=>?_);simp only [go_sem,seval,↓reduceIte,show (0:Int)≤(c.length:Int)-1-(k:Int) by omega,Int.le_refl,Int.toNat_zero,A2 _ _ h0,Aw _ _ (Nat.le_of_lt h0),At,hpl,show (0:Int)<(n:Int) by omega,hrow,List.take_zero,Rk,Nat.zero_mul,Nat.mul_one,Ao _ _ h1,Ai _ _ (Nat.le_of_lt h1),Ae,g1,Nat.sub_zero,show ((c.length:Int)-1-(k:Int)).toNat=c.length-1-k by omega,show (c.length:Int)-1-(k:Int)<(c.length:Int) by omega,Ac c (c.length-1-k) (by omega),show c.getD (c.length-1-k) 0=at' c (c.length-1-k) from rfl,wid (cv2 (pc (aftL m n (pc ll) c k)) (pc ll) 0 0%m+at' c (c.length-1-k)) (by omega) (by omega),tm (cv2 (pc (aftL m n (pc ll) c k)) (pc ll) 0 0%m+at' c (c.length-1-k)) m (by omega),show m≠0 by omega,C9 _ _ _ _ h0,hst,wid ((c.length:Int)-1-(k:Int)-1) (by omega) (by omega)];(first|refine hK _ _ _ ?_|refine ⟨_,hT,hK _ _ _ ?_⟩);clear hK K)|refine sT ?_))
   exact ⟨(k+1,v+1),by simp only;omega,by simp only;omega,by simp [Sub,lk];omega⟩
  ·(repeat (first|((with_reducible refine rC rfl fun K hK=>?_);simp only [go_sem,seval,↓reduceIte,show ¬ (0:Int)≤(c.length:Int)-1-(k:Int) by omega];refine hK _ _ _ ?_;clear hK K)|refine sT ?_))
   refine rt1 ?_
   rw [show k=c.length by omega]
theorem Kx {a a' b:Nat→Nat→Int} {m:Int} {u v:Nat} (h:∀ i j,i≤u→j≤v→a i j%m=a' i j%m):cv2 a b u v%m=cv2 a' b u v%m:=by
 unfold cv2
 refine Be fun i hi=>Be fun j hj=>?_
 rw [Int.mul_emod,h i j (by omega) (by omega),← Int.mul_emod]
theorem Ajq (k:Nat) (d:Nat→Int) (Q:Nat→Nat→Nat→Int) (t:Nat→Nat→Int) (u v:Nat):cv2 (fun a b=>sm k (fun i=>d i*Q i a b)) t u v=sm k (fun i=>d i*cv2 (Q i) t u v):=by
 unfold cv2
 have e1:∀ i,sm (v+1) (fun j=>sm k (fun q=>d q*Q q i j)*t (u-i) (v-j))=sm k (fun q=>sm (v+1) (fun j=>d q*(Q q i j*t (u-i) (v-j)))):=by
  intro i
  rw [← Ra]
  refine As fun j _=>?_
  rw [← H6]
  exact As fun q _=>Int.mul_assoc _ _ _
 rw [As (fun i _=>e1 i),Ra]
 refine As fun q _=>?_
 rw [← Ch]
 exact As fun i _=>Ch _ _ _
theorem Yk {m:Int} (hm:0<m) {n:Nat} {t:Nat→Nat→Int} {c:List Int}:∀ k,k≤c.length→∀ u v,u+v<n→pc (aftL m n t c k) u v%m=sm k (fun i=>at' c (c.length-k+i)*pc (pwP m n t i) u v)%m
 | 0,_,u,v,h=>by rw [aftL,Bc h];rfl
 | k+1,hk,u,v,h=>by
  have ih:=Yk (c:=c) hm (n:=n) (t:=t) k (by omega)
  have e1:cv2 (pc (aftL m n t c k)) t u v%m=sm k (fun i=>at' c (c.length-k+i)*cv2 (pc (pwP m n t i)) t u v)%m:=by
   rw [← Ajq]
   exact Kx fun i j hi hj=>ih i j (by omega)
  have e2:sm k (fun i=>at' c (c.length-k+i)*cv2 (pc (pwP m n t i)) t u v)%m=sm k (fun i=>at' c (c.length-(k+1)+(i+1))*pc (pwP m n t (i+1)) u v)%m:=Be fun i hi=>by
   rw [show c.length-(k+1)+(i+1)=c.length-k+i by omega,pwP,pmul,Bc h,Dl]
  rw [Bq,Int.add_emod,← e2,← e1,aftL,Bc h]
  rw [show pwP m n t 0=numP m 1 n from rfl,numP,Bc h,Nat.add_zero,show c.length-(k+1)=c.length-1-k by omega]
  by_cases h0:u=0∧v=0
  ·rw [if_pos h0,if_pos h0,h0.1,h0.2,Int.emod_emod,Dl,Int.mul_one,← Int.add_emod,Int.add_comm (at' c (c.length-1-k))]
   rw [Int.add_emod,Int.emod_emod,← Int.add_emod]
  ·rw [if_neg h0,if_neg h0,Int.mul_zero,Int.zero_emod,Int.zero_add]
theorem J9 {m:Int} (hm:0<m) {n:Nat} {t:Nat→Nat→Int} {c:List Int} {u v:Nat} (h:u+v<n):pc (aftL m n t c c.length) u v=sm c.length (fun i=>at' c i*pc (pwP m n t i) u v)%m:=by
 have h1:=Yk hm (n:=n) (t:=t) (c:=c) c.length (Nat.le_refl _) u v h
 rw [Nat.sub_self] at h1
 simp only [Nat.zero_add] at h1
 have h2:=(Gj hm n t c c.length).num u v
 rw [← h1,Int.emod_eq_of_lt h2.1 h2.2]
def lfS (m:Int) (n:Nat) (t:Nat→Nat→Int) (a b c:Nat):Int:=sm (n-c) (fun i=>t i c*pc (pwP m n t i) a b)
def rtS (m:Int) (n:Nat) (t:Nat→Nat→Int) (a b c:Nat):Int:=sm (n-a) (fun j=>t a j*pc (pwP m n t j) b c)
def ok1 (t:Nat→Nat→Int) (i:Nat):Prop:=t i 0=if i=1 then 1 else 0
def ok2 (n:Nat) (t:Nat→Nat→Int) (i j:Nat):Prop:=i<j→i+j<n→t i j=t j i
def ok3 (m:Int) (n:Nat) (t:Nat→Nat→Int) (a b c:Nat):Prop:=a+b+c<n→lfS m n t a b c%m=rtS m n t a b c%m
def IsLw (m:Int) (n:Nat) (t:Nat→Nat→Int):Prop:=(∀ i,i<n→ok1 t i)∧(∀ i j,ok2 n t i j)∧∀ a b c,ok3 m n t a b c
structure FaultR (m:Int) (n:Nat) (t:Nat→Nat→Int) (r:T):Prop where
 one:∀ i,i<n→(∀ i',i'<i→ok1 t i')→¬ ok1 t i→r=(.sl true 2 (intL [0,(i:Int)]))
 two:(∀ i,i<n→ok1 t i)→∀ i j,(∀ i',i'<i→∀ j',ok2 n t i' j')→(∀ j',j'<j→ok2 n t i j')→¬ ok2 n t i j→r=(.sl true 2 (intL [1,(i:Int),(j:Int)]))
 three:(∀ i,i<n→ok1 t i)→(∀ i j,ok2 n t i j)→∀ a b c,(∀ a',a'<a→∀ b c,ok3 m n t a' b c)→(∀ b',b'<b→∀ c,ok3 m n t a b' c)→(∀ c',c'<c→ok3 m n t a b c')→¬ ok3 m n t a b c→r=(.sl true 2 (intL [2,(a:Int),(b:Int),(c:Int)]))
 none:IsLw m n t→r=.nil
theorem Gc {p:Nat→Prop} (h:∃ i,p i):∃ i,p i∧(∀ k,k<i→¬ p k):=by
 obtain ⟨i,h1,h2⟩:=H2 p h
 exact ⟨i,h1,fun k hk hp=>by have:=h2 k hp;omega⟩
theorem Ge {p:Nat→Prop} {i j:Nat} (h1:p i) (h2:∀ k,k<i→¬ p k) (h3:p j) (h4:∀ k,k<j→¬ p k):i=j:=by
 rcases Nat.lt_trichotomy i j with h|h|h
 ·exact absurd h1 (h4 i h)
 ·exact h
 ·exact absurd h3 (h2 j h)
theorem Ur (m:Int) (n:Nat) (t:Nat→Nat→Int):∃ r,FaultR m n t r∧(¬ IsLw m n t→∃ x l,r=(.sl true 2 (intL (x::l)))):=by
 by_cases h1:∀ i,i<n→ok1 t i
 ·by_cases h2:∀ i j,ok2 n t i j
  ·by_cases h3:∀ a b c,ok3 m n t a b c
   ·exact ⟨.nil,⟨fun i hi _ h=>absurd (h1 i hi) h,fun _ i j _ _ h=>absurd (h2 i j) h,fun _ _ a b c _ _ _ h=>absurd (h3 a b c) h,fun _=>rfl⟩,fun h=>absurd ⟨h1,h2,h3⟩ h⟩
   ·obtain ⟨a, ⟨b0, c0, ha⟩, hal⟩ := Gc (p := fun a => ∃ b c, ¬ ok3 m n t a b c) (by
     refine Classical.byContradiction fun h=>h3 fun a b c=>Classical.byContradiction fun h4=>h ⟨a,b,c,h4⟩)
    obtain ⟨b,⟨c1,hb⟩,hbl⟩:=Gc (p:=fun b=>∃ c,¬ ok3 m n t a b c) ⟨b0,c0,ha⟩
    obtain ⟨c,hc,hcl⟩:=Gc (p:=fun c=>¬ ok3 m n t a b c) ⟨c1,hb⟩
    refine ⟨(.sl true 2 (intL [2,(a:Int),(b:Int),(c:Int)])),⟨fun i hi _ h=>absurd (h1 i hi) h,fun _ i j _ _ h=>absurd (h2 i j) h,fun _ _ a' b' c' ha' hb' hc' h=>?_,fun h=>absurd (h.2.2 a b c) hc⟩,fun _=>⟨_,_,rfl⟩⟩
    have ea:a'=a:=Ge (p:=fun a=>∃ b c,¬ ok3 m n t a b c) ⟨b',c',h⟩ (fun k hk ⟨b,c,hq⟩=>hq (ha' k hk b c)) ⟨b,c,hc⟩ hal
    subst ea
    have eb:b'=b:=Ge (p:=fun b=>∃ c,¬ ok3 m n t a' b c) ⟨c',h⟩ (fun k hk ⟨c,hq⟩=>hq (hb' k hk c)) ⟨c,hc⟩ hbl
    subst eb
    have ec:c'=c:=Ge (p:=fun c=>¬ ok3 m n t a' b' c) h (fun k hk hq=>hq (hc' k hk)) hc hcl
    subst ec
    rfl
  ·obtain ⟨i,⟨j0,hi⟩,hil⟩:=Gc (p:=fun i=>∃ j,¬ ok2 n t i j) (Classical.byContradiction fun h=>h2 fun i j=>Classical.byContradiction fun h4=>h ⟨i,j,h4⟩)
   obtain ⟨j,hj,hjl⟩:=Gc (p:=fun j=>¬ ok2 n t i j) ⟨j0,hi⟩
   refine ⟨(.sl true 2 (intL [1,(i:Int),(j:Int)])),⟨fun i hi _ h=>absurd (h1 i hi) h,fun _ i' j' hi' hj' h=>?_,fun _ h=>absurd h h2,fun h=>absurd h.2.1 h2⟩,fun _=>⟨_,_,rfl⟩⟩
   have ei:i'=i:=Ge (p:=fun i=>∃ j,¬ ok2 n t i j) ⟨j',h⟩ (fun k hk ⟨j,hq⟩=>hq (hi' k hk j)) ⟨j,hj⟩ hil
   subst ei
   have ej:j'=j:=Ge (p:=fun j=>¬ ok2 n t i' j) h (fun k hk hq=>hq (hj' k hk)) hj hjl
   subst ej
   rfl
 ·obtain ⟨i,hi,hil⟩:=Gc (p:=fun i=>¬ (i<n→ok1 t i)) (Classical.byContradiction fun h=>h1 fun i=>Classical.byContradiction fun h4=>h ⟨i,h4⟩)
  refine ⟨(.sl true 2 (intL [0,(i:Int)])),⟨fun i' hi' hl h=>?_,fun h=>absurd h h1,fun h=>absurd h h1,fun h=>absurd h.1 h1⟩,fun _=>⟨_,_,rfl⟩⟩
  have ei:i'=i:=Ge (p:=fun i=>¬ (i<n→ok1 t i)) (fun hq=>h (hq hi')) (fun k hk hq=>hq fun _=>hl k hk) hi hil
  subst ei
  rfl
end Go.Proofs.YtapdekacpecgiaaGreat

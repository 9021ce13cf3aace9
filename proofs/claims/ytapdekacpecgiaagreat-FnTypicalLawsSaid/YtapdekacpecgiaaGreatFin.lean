import Derived.Test.YtapdekacpecgiaaGreatTac
import Derived.Carry
import Derived.ChangeSame
import Derived.Lib.SmallJoins
import Derived.Deep.Matrix
import Derived.OpenShut
namespace Go.Proofs.YtapdekacpecgiaaGreat
open Go.RowKit
set_option linter.unusedSimpArgs false
set_option linter.unusedVariables false
set_option linter.unusedSectionVars false
set_option maxRecDepth 20000
set_option maxHeartbeats 1000000
open Go.ChangeShapes Go.WideShapes Go.Joins Go.Deep
theorem ownK:ownKnob Tryz.prog.godebug=none:=by kernel_rfl
theorem laid:laidOutB Tryz.prog=true:=by kernel_rfl
theorem carryAll {H:Type} {enc:TypeId×Value→H} {W W':World} (hb:Below W.heap.size W W'):∀ {ts:List TypeId} {vs:List Value} {ds:List (DataW H)} {ps:List MemPlace},(∀ t∈ts,Tryz.prog.readableRec t=true∧t<Tryz.prog.types.size)→DataW.TrodAll enc Tryz.prog W 0 (fun _=>true) true ts vs ds ps→(∀ x∈ps,x.block<W.heap.size)→∀ sp:Nat→Bool,(∀ p∈ps,sp p.block=true)→DataW.TrodAll enc Tryz.prog W' 0 sp true ts vs ds ps
 | [],_,_,_,_,h,_,_,_=>by
  obtain ⟨rfl,rfl,rfl⟩:=trodAll_nil h
  exact trodAll_mk0
 | t::ts,_,_,_,ht,h,hlt,sp,hsp=>by
  obtain ⟨v,vs,d,ds,p,q,rfl,rfl,rfl,h1,h2⟩:=trodAll_cons h
  have hx:=ht t (by simp)
  exact trodAll_cons_mk (WideElems.Trod_stays laid hx.1 hx.2 h1 (fun x hx=>hb.same (hlt x (by simp [hx]))) (fun x hx=>hsp x (by simp [hx])))
   (carryAll hb (fun t h=>ht t (by simp [h])) h2 (fun x hx=>hlt x (by simp [hx])) sp (fun x hx=>hsp x (by simp [hx])))
theorem Ahc {H : Type} {enc : TypeId × Value → H} {f : Func} {s : ChangeSpec} {apart fresh handsOn again : Bool} {W W' : World} {args : Array Value} {ds gs : List (DataW H)} {before : List MemPlace} {tb : TypeId}
  (hW:DataW.Whole enc Tryz.prog f.params.toList s.vars apart W args.toList ds gs before) (hv:s.vars=[]) (hts:∀ t∈f.params.toList,Tryz.prog.readableRec t=true∧t<Tryz.prog.types.size)
  (hf:f.resultTypes = #[tb]) (htb:Tryz.prog.underlying tb=some .bool) (hs:s.fn H (ds++gs)={ results:=[.lit (.bool true)],args:=ds }) (hb:Below W.heap.size W W') :
  s.post enc Tryz.prog f apart fresh handsOn again W args (.bool true) W':=by
 have hlt:∀ p∈before,p.block<W.heap.size:=fun p hp=>hW.lt p hp
 have hres:∀ (b:Nat) (sp:Nat→Bool) (hd:Bool),DataW.TrodAll enc Tryz.prog W' b sp hd f.resultTypes.toList ((Value.bool true).resultList f.resultTypes.size) (s.fn H (ds++gs)).results []:=fun b sp hd=>by
  rw [hf,hs]
  exact trodAll_cons_mk (shut_bool htb true) trodAll_mk0
 obtain ⟨p,q,hA,hV,rfl,hz,hn⟩:=hW
 rw [hv] at hV
 obtain ⟨rfl,rfl⟩:=trodVars_none hV
 have hW:=(⟨p,[],hA,hv▸hV,rfl,hz,hn⟩:DataW.Whole enc Tryz.prog f.params.toList s.vars apart W args.toList ds [] (p++[]))
 have hp:∀ x∈p,x.block<W.heap.size:=fun x hx=>hlt x (by simp [hx])
 have hargs:∀ sp:Nat→Bool,(∀ x∈p,sp x.block=true)→DataW.TrodAll enc Tryz.prog W' 0 sp true f.params.toList args.toList (s.fn H (ds++[])).args p:=fun sp hsp=>by
  rw [hs];exact carryAll hb hts hA hp sp hsp
 have hvars:∀ sp:Nat→Bool,DataW.TrodVars enc Tryz.prog W' sp s.vars (s.fn H (ds++[])).vars []:=fun sp=>by
  rw [hv,hs];rfl
 refine ⟨ds,[],p++[],[],p,[],hW,hres _ _ _,hargs _ (fun x hx=>by simpa using hp x hx),hvars _,World.keptBut_mono (fun x hx=>⟨hx,.inr (by simpa using hx)⟩) (hb.frame (·∈p++[])),fun _=>⟨?_,_,_,([]++p)++[],⟨[]++p,[],trodAll_append (hargs _ (fun _ _=>rfl)) (hres _ _ _),hvars _,rfl,?_,?_⟩,?_⟩⟩
 ·exact ok_one hf rfl (okWide_bool_mk htb _)
 ·intro b off h
  have hin:MemPlace.cell b off∈p:=by simpa using h
  rw [hb.frozen (hp _ hin)]
  exact hz b off (by simpa using hin)
 ·intro ha
  simpa using hn ha
 ·intro x hx _
  simpa using hx
theorem Abw {f : FuncId} (hf : f < 1000000) {args : List T} {vs : List Value} {W : World} (h : AFn Tryz.prog f args (.bool true)) (hl : vs.length = args.length)
  (hC:∀ (j:Nat) (t:T) (v:Value),args[j]? = some t→vs[j]? = some v→t.refFree=true∧VR (argCx Tryz.prog W (fun _=>none)) j t v) :
  Calls Tryz.prog f vs.toArray W (fun e w'=>e=.returned (.bool true)∧Below W.heap.size W w'):=by
 refine (((Fg hf).1 h).2 W vs (fun _=>none) (fun _ _ _ _ h=>by cases h) (fun _ _ _ _ _ _ h=>by cases h) hl hC).mono fun e w' ⟨v,κ',he,hB⟩=>?_
 obtain ⟨cs,e1,e2⟩:=hB.res
 simp only [CR] at e2
 subst e2
 simp only [mkv,List.headD_cons] at e1
 exact ⟨by rw [he,e1],⟨hB.os,hB.tape,hB.output,hB.size,fun k hk=>hB.kept k hk rfl⟩⟩
def Ar (W:World) (t:T) (v:Value):Prop:=t.refFree=true∧∀ j,VR (argCx Tryz.prog W (fun _=>none)) j t v
end Go.Proofs.YtapdekacpecgiaaGreat

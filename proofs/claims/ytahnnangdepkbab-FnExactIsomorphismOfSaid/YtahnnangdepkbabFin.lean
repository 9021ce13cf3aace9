/-
  From what a law does to trees to the given statement: arguments read as trees; the call's end.
-/
import Derived.Test.YtahnnangdepkbabTac
import Derived.Carry
import Derived.ChangeSame
import Derived.Lib.SmallJoins
import Derived.Deep.Matrix
import Derived.OpenShut
namespace Go.Proofs.Ytahnnangdepkbab
open Go.RowKit
set_option linter.unusedSimpArgs false
set_option linter.unusedVariables false
set_option linter.unusedSectionVars false
set_option maxRecDepth 20000
-- From what a law does to trees to the given statement: arguments read as trees; the call's end.
open Go.ChangeShapes Go.WideShapes Go.Joins Go.Deep
theorem ownK : ownKnob Try.prog.godebug = none := by kernel_rfl
theorem laid : laidOutB Try.prog = true := by kernel_rfl
theorem carryAll {H : Type} {enc : TypeId × Value → H} {W W' : World} (hb : Below W.heap.size W W') : ∀ {ts : List TypeId} {vs : List Value} {ds : List (DataW H)} {ps : List MemPlace}, (∀ t ∈ ts, Try.prog.readableRec t = true ∧ t < Try.prog.types.size) → DataW.TrodAll enc Try.prog W 0 (fun _ => true) true ts vs ds ps → (∀ x ∈ ps, x.block < W.heap.size) → ∀ sp : Nat → Bool, (∀ p ∈ ps, sp p.block = true) → DataW.TrodAll enc Try.prog W' 0 sp true ts vs ds ps
  | [], _, _, _, _, h, _, _, _ => by
    obtain ⟨rfl, rfl, rfl⟩ := trodAll_nil h
    exact trodAll_mk0
  | t :: ts, _, _, _, ht, h, hlt, sp, hsp => by
    obtain ⟨v, vs, d, ds, p, q, rfl, rfl, rfl, h1, h2⟩ := trodAll_cons h
    have hx := ht t (by simp)
    exact trodAll_cons_mk (WideElems.Trod_stays laid hx.1 hx.2 h1 (fun x hx => hb.same (hlt x (by simp [hx]))) (fun x hx => hsp x (by simp [hx])))
      (carryAll hb (fun t h => ht t (by simp [h])) h2 (fun x hx => hlt x (by simp [hx])) sp (fun x hx => hsp x (by simp [hx])))
theorem post_law {H : Type} {enc : TypeId × Value → H} {f : Func} {s : ChangeSpec} {apart fresh handsOn again : Bool} {W W' : World} {args : Array Value} {ds gs : List (DataW H)} {before : List MemPlace} {tb : TypeId}
    (hW : DataW.Whole enc Try.prog f.params.toList s.vars apart W args.toList ds gs before) (hv : s.vars = []) (hts : ∀ t ∈ f.params.toList, Try.prog.readableRec t = true ∧ t < Try.prog.types.size)
    (hf : f.resultTypes = #[tb]) (htb : Try.prog.underlying tb = some .bool) (hs : s.fn H (ds ++ gs) = { results := [.lit (.bool true)], args := ds }) (hb : Below W.heap.size W W') :
    s.post enc Try.prog f apart fresh handsOn again W args (.bool true) W' := by
  have hlt : ∀ p ∈ before, p.block < W.heap.size := fun p hp => hW.lt p hp
  have hres : ∀ (b : Nat) (sp : Nat → Bool) (hd : Bool), DataW.TrodAll enc Try.prog W' b sp hd f.resultTypes.toList ((Value.bool true).resultList f.resultTypes.size) (s.fn H (ds ++ gs)).results [] := fun b sp hd => by
    rw [hf, hs]
    exact trodAll_cons_mk (shut_bool htb true) trodAll_mk0
  obtain ⟨p, q, hA, hV, rfl, hz, hn⟩ := hW
  rw [hv] at hV
  obtain ⟨rfl, rfl⟩ := trodVars_none hV
  have hW := (⟨p, [], hA, hv ▸ hV, rfl, hz, hn⟩ : DataW.Whole enc Try.prog f.params.toList s.vars apart W args.toList ds [] (p ++ []))
  have hp : ∀ x ∈ p, x.block < W.heap.size := fun x hx => hlt x (by simp [hx])
  have hargs : ∀ sp : Nat → Bool, (∀ x ∈ p, sp x.block = true) → DataW.TrodAll enc Try.prog W' 0 sp true f.params.toList args.toList (s.fn H (ds ++ [])).args p := fun sp hsp => by
    rw [hs]; exact carryAll hb hts hA hp sp hsp
  have hvars : ∀ sp : Nat → Bool, DataW.TrodVars enc Try.prog W' sp s.vars (s.fn H (ds ++ [])).vars [] := fun sp => by
    rw [hv, hs]; rfl
  refine ⟨ds, [], p ++ [], [], p, [], hW, hres _ _ _, hargs _ (fun x hx => by simpa using hp x hx), hvars _, World.keptBut_mono (fun x hx => ⟨hx, .inr (by simpa using hx)⟩) (hb.frame (· ∈ p ++ [])), fun _ => ⟨?_, _, _, ([] ++ p) ++ [], ⟨[] ++ p, [], trodAll_append (hargs _ (fun _ _ => rfl)) (hres _ _ _), hvars _, rfl, ?_, ?_⟩, ?_⟩⟩
  · exact ok_one hf rfl (okWide_bool_mk htb _)
  · intro b off h
    have hin : MemPlace.cell b off ∈ p := by simpa using h
    rw [hb.frozen (hp _ hin)]
    exact hz b off (by simpa using hin)
  · intro ha
    simpa using hn ha
  · intro x hx _
    simpa using hx
/-- What the call does, for trees that nobody owns. -/
theorem calls_true {f : FuncId} (hf : f < 1000000) {args : List T} {vs : List Value} {W : World} (h : AFn Try.prog f args (.bool true)) (hl : vs.length = args.length)
    (hC : ∀ (j : Nat) (t : T) (v : Value), args[j]? = some t → vs[j]? = some v → t.refFree = true ∧ VR (argCx Try.prog W (fun _ => none)) j t v) :
    Calls Try.prog f vs.toArray W (fun e w' => e = .returned (.bool true) ∧ Below W.heap.size W w') := by
  refine (((AFn_lt hf).1 h).2 W vs (fun _ => none) (fun _ _ _ _ h => by cases h) (fun _ _ _ _ _ _ h => by cases h) hl hC).mono fun e w' ⟨v, κ', he, hB⟩ => ?_
  obtain ⟨cs, e1, e2⟩ := hB.res
  simp only [CR] at e2
  subst e2
  simp only [mkv, List.headD_cons] at e1
  exact ⟨by rw [he, e1], ⟨hB.os, hB.tape, hB.output, hB.size, fun k hk => hB.kept k hk rfl⟩⟩
def Ar (W : World) (t : T) (v : Value) : Prop := t.refFree = true ∧ ∀ j, VR (argCx Try.prog W (fun _ => none)) j t v
theorem ar_nil {W : World} {t : TypeId} {l : List Int} (hl : l = []) (s : Nat) (p : List Nat) : CR (argCx Try.prog W (fun _ => none)) s p (.sl false t (intL l)) [.slice none 0 0] := by
  subst hl
  simp only [CR]
  exact ⟨none, 0, rfl, Nat.le_refl _, Nat.zero_le _, by simp [intL], rfl, fun h => absurd rfl h⟩
theorem ar_row {W : World} {a : Addr} {len cap : Nat} {q : TypeId} {zs : List Int} (hc : Try.prog.cellsOf q = 1) (hlc : len ≤ cap) (hm : cap ≤ maxLen) (hz : len ≤ zs.length) (hcell : ∀ i, i < zs.length → W.cell? (a.add i) = some (.int .i64 (zs.getD i 0))) (s : Nat) (p : List Nat) :
    CR (argCx Try.prog W (fun _ => none)) s p (.sl false q (intL (zs.take len))) [.slice (some a) len cap] := by
  have hlen : (intL (zs.take len)).length = len := by simp [intL]; omega
  simp only [CR]
  refine ⟨some a, cap, by rw [hlen], by rw [hlen]; exact hlc, hm, fun t ht => ?_, intL_pure _, fun hne => ?_⟩
  · simp only [intL, List.mem_map] at ht
    obtain ⟨x, _, rfl⟩ := ht
    exact hc.symm
  · have hpos : 0 < len := by
      rcases Nat.eq_zero_or_pos len with h | h
      · exact absurd (List.eq_nil_of_length_eq_zero (by rw [hlen, h])) hne
      · exact h
    have h0 := hcell 0 (by omega)
    simp only [Addr.add, if_true] at h0
    obtain ⟨b, off, spot⟩ := a
    simp only [World.cell?] at h0
    cases hb : W.heap[b]? with
    | none => simp [hb] at h0
    | some ob =>
      cases ob with
      | cells cur e fz =>
        simp only [hb] at h0
        cases spot with
        | some x => simp at h0
        | none =>
          have hcell' : ∀ i, i < len → cur[off + i]? = some (.int .i64 (zs.getD i 0)) := fun i hi => by
            have := hcell i (by omega)
            rw [addr_add] at this
            simpa [World.cell?, hb] using this
          have hsz : off + len ≤ cur.size := by
            have := hcell' (len - 1) (by omega)
            have := (Array.getElem?_eq_some_iff.1 this).1
            omega
          refine ⟨b, off, rfl, ⟨(Array.getElem?_eq_some_iff.1 hb).1, rfl⟩, cur, e, fz, hb, ?_, ?_⟩
          · show off + (intL (zs.take len)).length * Try.prog.cellsOf q ≤ cur.size
            rw [hlen, hc]; omega
          · show CRL _ s p 0 _ ((cur.toList.drop off).take ((intL (zs.take len)).length * Try.prog.cellsOf q))
            rw [hlen, hc, Nat.mul_one]
            refine CRL_of_cells _ 0 _ (by rw [hlen]; simp; omega) (fun t ht => ?_) (fun j t v hj hv => ?_)
            · simp only [intL, List.mem_map] at ht
              obtain ⟨x, _, rfl⟩ := ht
              rfl
            · have hjl : j < len := by have := (List.getElem?_eq_some_iff.1 hj).1; omega
              have hv2 : cur[off + j]? = some v := by
                rw [List.getElem?_take_of_lt hjl, List.getElem?_drop] at hv
                simpa using hv
              rw [hcell' j hjl] at hv2
              have ht2 : t = .int .i64 (zs.getD j 0) := by
                have : (intL (zs.take len))[j]? = some (.int .i64 (zs.getD j 0)) := by
                  have hjz : j < zs.length := by omega
                  simp [intL, List.getElem?_take_of_lt hjl, List.getD_eq_getElem?_getD, hjz]
                rw [this] at hj
                simpa using hj.symm
              subst ht2
              simp only [Option.some.injEq] at hv2
              subst hv2
              simp only [CR]
      | _ => simp [hb] at h0
theorem cell_int {H : Type} {enc : TypeId × Value → H} {W : World} {t : TypeId} {fuel : Nat} {v : Value} {x : DataW H × List MemPlace} (ht : Try.prog.underlying t = some (.int .i64)) (h : DataW.trod enc Try.prog W 0 (fun _ => true) true fuel t [v] = some x) : ∃ n, v = .int .i64 n ∧ (Lit.int .i64 n).wf = true := by
  obtain ⟨n, h1, h2, h3⟩ := DataW.trod_int ht h
  exact ⟨n, by simpa using h1, h3⟩
end Go.Proofs.Ytahnnangdepkbab

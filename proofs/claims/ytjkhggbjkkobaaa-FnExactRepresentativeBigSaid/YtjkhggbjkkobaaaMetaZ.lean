/-
  The generic part, twenty-sixth text: a function whose body runs so does so to trees.
-/
import Derived.Test.YtjkhggbjkkobaaaMetaY
namespace Go.Proofs.Ytjkhggbjkkobaaa
open Go.RowKit

section
variable {env : Env} {V : Nat → Value} {w w' : World} {κ : Kap} {a : Act} {n : Nat} {tt : Tt} {P : Program}

/-- The colours behind a call's results. -/
def outKap (bs : Nat → List Nat) (l : List (Nat × List Nat × T)) (κ : Kap) : Kap := fun b =>
  match κ b with
  | some (s, q, v) => (place bs l 0 s q).map fun r => (0, r, v)
  | none => none

theorem outKap_some {bs : Nat → List Nat} {l : List (Nat × List Nat × T)} {b s : Nat} {r : List Nat} {v : Value} (h : outKap bs l κ b = some (s, r, v)) :
    ∃ i s0 p y q', l[i]? = some (s0, p, y) ∧ κ b = some (s0, p ++ q', v) ∧ r = bs i ++ q' ∧ s = 0 := by
  unfold outKap at h
  cases hk : κ b with
  | none => simp [hk] at h
  | some x =>
    obtain ⟨s0, q, u⟩ := x
    simp only [hk] at h
    cases hp : place bs l 0 s0 q with
    | none => simp [hp] at h
    | some r' =>
      simp only [hp, Option.map_some, Option.some.injEq, Prod.mk.injEq] at h
      obtain ⟨rfl, rfl, rfl⟩ := h
      obtain ⟨i, p, y, q', h1, h2, h3⟩ := place_some bs l 0 s0 q r' hp
      subst h2
      exact ⟨i, s0, p, y, q', h1, rfl, by simpa using h3, rfl⟩

theorem back_of {κ0 : Kap} (hI : Inv ⟨P, w, fun b => κ0 b ≠ none⟩ env V w' κ) {l : List (Nat × List Nat × T)} {bs : Nat → List Nat}
    (hbs : ∀ i j x y, i < l.length → j < l.length → bs i ++ x = bs j ++ y → i = j ∧ x = y) {r : T} {v : Value} (hr : r.refFree = true) (hres : VR (resCx P w' (outKap bs l κ)) 0 r v) : Back P w κ0 r v w' (outKap bs l κ) where
  os := hI.os
  tape := hI.tape
  output := hI.output
  size := hI.size
  kept b hb hk := hI.frozen b ⟨hb, fun h => h hk⟩
  col b s p v h := by
    obtain ⟨i, s0, p0, y, q', h1, h2, h3, h4⟩ := outKap_some h
    obtain ⟨h5, h6⟩ := hI.col b _ _ _ h2
    refine ⟨h5, Classical.byContradiction fun hn => h6 ⟨Nat.lt_of_not_le fun h => hn (.inl h), fun h => hn (.inr h)⟩⟩
  inj b b' s p v v' h h' := by
    obtain ⟨i, s0, p0, y, q, h1, h2, h3, _⟩ := outKap_some h
    obtain ⟨j, s1, p1, z, q', g1, g2, g3, _⟩ := outKap_some h'
    obtain ⟨rfl, rfl⟩ := hbs i j q q' (List.getElem?_eq_some_iff.1 h1).1 (List.getElem?_eq_some_iff.1 g1).1 (h3.symm.trans g3)
    rw [h1] at g1
    cases g1
    exact hI.inj b b' _ _ _ _ h2 g2
  refFree := hr
  res := hres

def bare (X : Cx) : Cx := { X with F := fun _ => False }

theorem out_CR {C : Ctx} (hC : C.P = P) {l : List (Nat × List Nat × T)} {bs : Nat → List Nat} (hnd : (l.map (·.1)).Nodup) {i s : Nat} {p : List Nat} {y : T} (hl : l[i]? = some (s, p, y)) {cs : List Value}
    (hr : y.refFree = true) (hno : y.noF = true) (h : CR (cx C env w' κ) s p y cs) : CR (resCx P w' (outKap bs l κ)) 0 (bs i) y cs := by
  have h1 : CR (bare (cx C env w' κ)) s p y cs := CR_noF (cx C env w' κ) (bare (cx C env w' κ)) rfl rfl rfl rfl rfl s y p cs hno h
  refine CR_carryF (X := bare (cx C env w' κ)) (X' := resCx P w' (outKap bs l κ)) (by simp [resCx, bare, cx, hC]) (fun b hb => hb.elim) (fun b q v hk => ⟨?_, rfl⟩) hr h1
  have hk' : κ b = some (s, p ++ q, v) := hk
  show outKap bs l κ b = _
  simp only [outKap, hk', place_at bs l 0 i s p q y hnd hl, Option.map_some, Nat.zero_add]

theorem ret_back (hP : TtOk P tt) {κ0 : Kap} {fn : Func} {r : T} (h3 : fn.results.toList.length = 1 ∨ fn.results.toList.length = 2 ∨ fn.results.toList.length = 3) (hF : FR ⟨P, w, fun b => κ0 b ≠ none⟩ n env a w') (h : retOk tt fn.results.toList r env) :
    ∃ v κ', (results fn a.tmps).run P w' = .ok v w' ∧ Back P w κ0 r v w' κ' := by
  obtain ⟨hd, hn, κ, V, hI, hV⟩ := hF
  obtain ⟨l, hl, hnd, rfl⟩ := h
  have hlen : fn.results.toList.length = l.length := by have := congrArg List.length hl; simpa using this
  have src : ∀ (i : Nat) (x : ResultVar), fn.results.toList[i]? = some x → ∃ (s : Nat) (p : List Nat) (y : T) (cs : List Value), l[i]? = some (s, p, y) ∧ RdRes P w' a.tmps (mkv y cs) x ∧ y.refFree = true ∧ y.noF = true ∧ CR (cx ⟨P, w, fun b => κ0 b ≠ none⟩ env w' κ) s p y cs := by
    intro i x hx
    have := congrArg (fun z => z[i]?) hl
    simp only [List.getElem?_map, hx, Option.map_some] at this
    cases hli : l[i]? with
    | none => simp [hli] at this
    | some z =>
      obtain ⟨s, p, y⟩ := z
      simp [hli] at this
      obtain ⟨cs, h1, h2, h3, h4⟩ := resSrc_run (C := ⟨P, w, fun b => κ0 b ≠ none⟩) hP hI hV this
      exact ⟨s, p, y, cs, rfl, h1, h2, h3, h4⟩
  match hrs : fn.results.toList, h3, hlen, src with
  | [x], _, hlen, src =>
    obtain ⟨s, p, y, cs, g1, g2, g3, g4, g5⟩ := src 0 x rfl
    match l, hlen, hnd, g1 with
    | [z], _, hnd, g1 =>
      simp at g1
      subst g1
      exact ⟨_, _, results1 hrs g2, back_of (bs := fun _ => []) hI (fun i j x y hi hj h => ⟨by simp at hi hj; omega, by simpa using h⟩) g3 ⟨cs, rfl, out_CR rfl (bs := fun _ => []) hnd (i := 0) rfl g3 g4 g5⟩⟩
  | [x1, x2], _, hlen, src =>
    obtain ⟨s1, p1, y1, cs1, g1, g2, g3, g4, g5⟩ := src 0 x1 rfl
    obtain ⟨s2, p2, y2, cs2, k1, k2, k3, k4, k5⟩ := src 1 x2 rfl
    match l, hlen, hnd, g1, k1 with
    | [z1, z2], _, hnd, g1, k1 =>
      simp at g1 k1
      subst g1; subst k1
      refine ⟨_, _, results2 hrs g2 k2, back_of (l := [(s1, p1, y1), (s2, p2, y2)]) (bs := fun i => [i]) hI (fun i j x y _ _ h => by simpa using h) (by simp [resT, T.refFree, T.refFreeL, g3, k3]) ⟨[.tuple #[mkv y1 cs1, mkv y2 cs2]], rfl, ?_⟩⟩
      simp only [resT, List.map_cons, List.map_nil, CR]
      refine ⟨[mkv y1 cs1, mkv y2 cs2], rfl, ?_⟩
      simp only [CRT, List.head?_cons, List.tail_cons]
      exact ⟨⟨_, cs1, rfl, rfl, out_CR rfl (bs := fun i => [i]) hnd (i := 0) rfl g3 g4 g5⟩, ⟨_, cs2, rfl, rfl, out_CR rfl (bs := fun i => [i]) hnd (i := 1) rfl k3 k4 k5⟩, trivial⟩
  | [x1, x2, x3], _, hlen, src =>
    obtain ⟨s1, p1, y1, cs1, g1, g2, g3, g4, g5⟩ := src 0 x1 rfl
    obtain ⟨s2, p2, y2, cs2, k1, k2, k3, k4, k5⟩ := src 1 x2 rfl
    obtain ⟨s3, p3, y3, cs3, m1, m2, m3, m4, m5⟩ := src 2 x3 rfl
    match l, hlen, hnd, g1, k1, m1 with
    | [z1, z2, z3], _, hnd, g1, k1, m1 =>
      simp at g1 k1 m1
      subst g1; subst k1; subst m1
      refine ⟨_, _, results3 hrs g2 k2 m2, back_of (l := [(s1, p1, y1), (s2, p2, y2), (s3, p3, y3)]) (bs := fun i => [i]) hI (fun i j x y _ _ h => by simpa using h) (by simp [resT, T.refFree, T.refFreeL, g3, k3, m3]) ⟨[.tuple #[mkv y1 cs1, mkv y2 cs2, mkv y3 cs3]], rfl, ?_⟩⟩
      simp only [resT, List.map_cons, List.map_nil, CR]
      refine ⟨[mkv y1 cs1, mkv y2 cs2, mkv y3 cs3], rfl, ?_⟩
      simp only [CRT, List.head?_cons, List.tail_cons]
      exact ⟨⟨_, cs1, rfl, rfl, out_CR rfl (bs := fun i => [i]) hnd (i := 0) rfl g3 g4 g5⟩, ⟨_, cs2, rfl, rfl, out_CR rfl (bs := fun i => [i]) hnd (i := 1) rfl k3 k4 k5⟩,
        ⟨_, cs3, rfl, rfl, out_CR rfl (bs := fun i => [i]) hnd (i := 2) rfl m3 m4 m5⟩, trivial⟩
  | [], h3, _, _ => simp at h3
  | _ :: _ :: _ :: _ :: _, h3, _, _ => simp at h3

theorem args_inv {args : List T} {vs : List Value} (hcol : ∀ b s p v, κ b = some (s, p, v) → b < w.heap.size) (hinj : ∀ b b' s p v v', κ b = some (s, p, v) → κ b' = some (s, p, v') → b = b') (hlen : vs.length = args.length)
    (hC : ∀ (j : Nat) (t : T) (v : Value), args[j]? = some t → vs[j]? = some v → t.refFree = true ∧ VR (argCx P w κ) j t v) (hV : ∀ j v, vs[j]? = some v → V j = v) : Inv ⟨P, w, fun b => κ b ≠ none⟩ (argEnv 0 args) V w κ := by
  have key : ∀ (j : Nat) (x : T), args[j]? = some x → x.refFree = true ∧ VR (cx ⟨P, w, fun b => κ b ≠ none⟩ (argEnv 0 args) w κ) j x (V j) := by
    intro j x hx
    have hj : j < vs.length := by rw [hlen]; exact (List.getElem?_eq_some_iff.1 hx).1
    obtain ⟨h1, cs, h2, h3⟩ := hC j x vs[j] hx (by simp [hj])
    refine ⟨h1, cs, by rw [hV j vs[j] (by simp [hj]), h2], ?_⟩
    exact CR_carryF (X := argCx P w κ) rfl (fun b hb => ⟨⟨hb.1, fun h => h hb.2⟩, rfl⟩) (fun b q v hk => ⟨hk, rfl⟩) h1 h3
  refine ⟨rfl, rfl, rfl, Nat.le_refl _, fun _ _ => rfl, fun b s p v h => ⟨hcol b s p v h, fun hF => hF.2 (by show κ b ≠ none; rw [h]; simp)⟩, hinj, fun t k x hx => ?_, fun t k x hx => ?_, fun t k hx => ?_⟩
  · obtain ⟨j, y, h1, h2, h3⟩ := lk_argEnv args 0 t _ hx
    simp only [Slot.mk.injEq, mkSV] at h3
    by_cases hno : y.noOwn = true
    · simp only [hno, if_true, SV.val.injEq] at h3
      rw [h3.2, show t = j by omega]
      exact ⟨hno, (key j y h1).2⟩
    · simp [hno] at h3
  · obtain ⟨j, y, h1, h2, h3⟩ := lk_argEnv args 0 t _ hx
    simp only [Slot.mk.injEq, mkSV] at h3
    by_cases hno : y.noOwn = true
    · simp [hno] at h3
    · simp only [hno, Bool.false_eq_true, if_false, SV.own.injEq] at h3
      rw [h3.2, show t = j by omega]
      exact key j y h1
  · obtain ⟨j, y, h1, h2, h3⟩ := lk_argEnv args 0 t _ hx
    simp only [Slot.mk.injEq, mkSV] at h3
    by_cases hno : y.noOwn = true <;> simp [hno] at h3

/-- ████ A function's body, run over slots, tells what the function does to trees. -/
theorem AFn.of (hP : TtOk P tt) {f : FuncId} (hlt : f < 1000000) {fn : Func} {c : Code} {args : List T} {r : T} (hf : P.funcs[f]? = some fn) (hb : fn.body = some c) (hname : (fn.name == "runtime.NumGoroutine") = false) (hargs : args.length ≤ fn.ntmps)
    (h3 : fn.results.toList.length = 1 ∨ fn.results.toList.length = 2 ∨ fn.results.toList.length = 3) (h : ∀ C : Ctx, C.P = P → AWP C fn.ntmps c (endQ tt fn.results.toList r) (argEnv 0 args)) : AFn P f args r := by
  refine (AFn_lt hlt).2 ⟨⟨fn, hf, hname, by rw [hb]; rfl⟩, fun w vs κ hcol hinj hlen hC => ?_⟩
  refine calls_of_wp hf hb ?_
  have hF : FR ⟨P, w, fun b => κ b ≠ none⟩ fn.ntmps (argEnv 0 args) { tmps := vs.toArray ++ Array.replicate (fn.ntmps - vs.toArray.size) undef, defers := [] } w := by
    refine ⟨rfl, by simp; omega, κ, fun t => (vs.toArray ++ Array.replicate (fn.ntmps - vs.toArray.size) undef).getD t undef, args_inv hcol hinj hlen hC (fun j v hj => ?_), fun t _ => rfl⟩
    have hjl : j < vs.length := (List.getElem?_eq_some_iff.1 hj).1
    rw [Array.getD_eq_getD_getElem?, Array.getElem?_append_left (by simpa using hjl)]
    simp [hj]
  refine wp_mono (h _ rfl _ w hF) (fun e a' w' ⟨env', h1, h2⟩ => ?_)
  cases e with
  | normal =>
    obtain ⟨v, κ', g1, g2⟩ := ret_back hP h3 h2 h1
    exact ⟨h2.defers, v, g1, v, κ', rfl, g2⟩
  | ret =>
    obtain ⟨v, κ', g1, g2⟩ := ret_back hP h3 h2 h1
    exact ⟨h2.defers, v, g1, v, κ', rfl, g2⟩
  | _ => exact h1.elim

end

end Go.Proofs.Ytjkhggbjkkobaaa

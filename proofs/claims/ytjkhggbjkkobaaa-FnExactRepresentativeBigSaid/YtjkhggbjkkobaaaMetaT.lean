/-
  The generic part, twentieth text: calls that are handed a tree.
-/
import Derived.Test.YtjkhggbjkkobaaaMetaS
namespace Go.Proofs.Ytjkhggbjkkobaaa
open Go.RowKit

section
variable {C : Ctx} {env : Env} {V : Nat → Value} {w : World} {κ : Kap} {a : Act} {AF : FuncId → List T → T → Prop} {U : List (Nat × Slot)} {R : List Nat} {n : Nat}
variable {tt : Tt} {P : Program}

theorem pureRd_sat (hI : Inv C env V w κ) (hV : ∀ t, t < 1000000 → V t = a.tmps.getD t undef) : ∀ (xs : List Operand) (c : List T → Rd) (R : List Nat), (∀ x ∈ xs, opndOk x = true) → (pureRd xs c).sat AF env U R →
    ∃ vs R', (c vs).sat AF env U R' ∧ vs.length = xs.length ∧ (∀ (j : Nat) (t : T) (x : Operand), vs[j]? = some t → xs[j]? = some x → t.pure = true ∧ HV (cx C env w κ) t (a.eval x))
  | [], c, R, _, h => ⟨[], R, h, rfl, fun j t x hj => by simp at hj⟩
  | x :: xs, c, R, hx, h => by
    simp only [pureRd] at h
    obtain ⟨v, R', h1, hv⟩ := rdv_sat hI hV (hx x (by simp)) h
    split at h1
    · rename_i hp
      simp only [Bool.and_eq_true] at hp
      obtain ⟨vs, R'', h2, hl, h3⟩ := pureRd_sat hI hV xs _ R' (fun y hy => hx y (by simp [hy])) h1
      refine ⟨v :: vs, R'', h2, by simp [hl], fun j t y hj hy => ?_⟩
      cases j with
      | zero => simp at hj hy; subst hj; subst hy; exact ⟨hp.1, hv⟩
      | succ j => exact h3 j t y (by simpa using hj) (by simpa using hy)
    · simp [Rd.sat] at h1

theorem giveRd_sat (hI : Inv C env V w κ) (hV : ∀ t, t < 1000000 → V t = a.tmps.getD t undef) (dv : Nat) : ∀ (xs : List (Operand × Bool)) (c : List T → List (Nat × Slot) → Rd) (R : List Nat), (∀ x ∈ xs, opndOk x.1 = true) → (giveRd dv xs c).sat AF env U R →
    (∃ vs R', (c vs []).sat AF env U R' ∧ vs.length = xs.length ∧ ∀ (j : Nat) (t : T) (x : Operand × Bool), vs[j]? = some t → xs[j]? = some x → t.pure = true ∧ HV (cx C env w κ) t (a.eval x.1)) ∨
    (∃ vs jg v' xg s k p T0 R' κ', (c vs [(s, ⟨k, .own (T.set .any p T0)⟩)]).sat AF env U R' ∧ vs.length = xs.length ∧ vs[jg]? = some v' ∧ xs[jg]? = some xg ∧ v'.refFree = true ∧ s ≠ dv ∧ lk env s = some ⟨k, .own T0⟩ ∧
      (∀ (j : Nat) (t : T) (x : Operand × Bool), j ≠ jg → vs[j]? = some t → xs[j]? = some x → t.pure = true ∧ HV (cx C env w κ) t (a.eval x.1)) ∧
      Inv C ((dv, ⟨verOf (lk env dv) + 1, .own v'⟩) :: (s, ⟨k, .own (T.set .any p T0)⟩) :: env) (upd V dv (a.eval xg.1)) w κ')
  | [], c, R, _, h => .inl ⟨[], R, h, rfl, fun j t x hj => by simp at hj⟩
  | (x, false) :: xs, c, R, hx, h => by
    simp only [giveRd] at h
    obtain ⟨v, R', h1, hv⟩ := rdv_sat hI hV (hx (x, false) (by simp)) h
    split at h1
    · rename_i hp
      simp only [Bool.and_eq_true] at hp
      rcases giveRd_sat hI hV dv xs _ R' (fun y hy => hx y (by simp [hy])) h1 with ⟨vs, R'', h2, hl, h3⟩ | ⟨vs, jg, v', xg, s, k, p, T0, R'', κ', h2, hl, h3, h4, h5, h6, h7, h8, h9⟩
      · refine .inl ⟨v :: vs, R'', h2, by simp [hl], fun j t y hj hy => ?_⟩
        cases j with
        | zero => simp at hj hy; subst hj; subst hy; exact ⟨hp.1, hv⟩
        | succ j => exact h3 j t y (by simpa using hj) (by simpa using hy)
      · refine .inr ⟨v :: vs, jg + 1, v', xg, s, k, p, T0, R'', κ', h2, by simp [hl], by simpa using h3, by simpa using h4, h5, h6, h7, fun j t y hne hj hy => ?_, h9⟩
        cases j with
        | zero => simp at hj hy; subst hj; subst hy; exact ⟨hp.1, hv⟩
        | succ j => exact h8 j t y (by omega) (by simpa using hj) (by simpa using hy)
    · simp [Rd.sat] at h1
  | (x, true) :: xs, c, R, hx, h => by
    simp only [giveRd] at h
    obtain ⟨v, R', h1, hv⟩ := rdv_sat hI hV (hx (x, true) (by simp)) h
    rcases take_sat hI hv h1 with ⟨hp, hr, h2⟩ | ⟨s, k, p, T0, nd, v', R'', hne, hs, hg, hnd, hrf, hag, hsz, h2, κ', hI', _⟩
    · obtain ⟨vs, R'', h3, hl, h4⟩ := pureRd_sat hI hV (xs.map (·.1)) _ R' (fun y hy => by
        rw [List.mem_map] at hy; obtain ⟨z, hz, rfl⟩ := hy; exact hx z (by simp [hz])) h2
      refine .inl ⟨v :: vs, R'', h3, by simp [hl], fun j t y hj hy => ?_⟩
      cases j with
      | zero => simp at hj hy; subst hj; subst hy; exact ⟨hp, hv⟩
      | succ j => exact h4 j t y.1 (by simpa using hj) (by simp at hy; simp [hy])
    · obtain ⟨vs, R3, h3, hl, h4⟩ := pureRd_sat hI hV (xs.map (·.1)) _ R'' (fun y hy => by
        rw [List.mem_map] at hy; obtain ⟨z, hz, rfl⟩ := hy; exact hx z (by simp [hz])) h2
      refine .inr ⟨v' :: vs, 0, v', (x, true), s, k, p, T0, R3, κ', h3, by simp [hl], rfl, rfl, hrf, hne, hs, fun j t y hj0 hj hy => ?_, hI'⟩
      cases j with
      | zero => exact absurd rfl hj0
      | succ j => exact h4 j t y.1 (by simpa using hj) (by simp at hy; simp [hy])

theorem zipB_map : ∀ (xs : List Operand) (bs : List Bool), (zipB xs bs).map (·.1) = xs
  | [], _ => by simp [zipB]
  | x :: l, [] => by simp [zipB, zipB_map l []]
  | x :: l, b :: bs => by simp [zipB, zipB_map l bs]

theorem op_callB {f' : FuncId} (hf : f' < 1000000) (hd : a.defers = []) (hn : a.tmps.size = n) (hI : Inv C env V w κ) (hV : ∀ t, t < 1000000 → V t = a.tmps.getD t undef) (hn1 : n ≤ 1000000) {x : Operand} {args : Array Operand} {ty : Array TypeId} {flags : List Bool} {i : Nat} {o : Oper} (ho : o.op = .call { callee := .value x, args := args, argTypes := ty }) (hok : opOk n o = true)
    {d : Nat} (hdst : o.dst = some d) (hv : HV (cx C env w κ) (.fn f' []) (a.eval x)) {R' : List Nat}
    (h2 : (giveRd (virt i) (zipB args.toList flags) fun vs ups => .rd d fun s => .rd (virt i) fun sv => .call f' vs fun r => (d, ⟨verOf s + 1, mkSV r⟩) :: (match ups with | [] => [] | u :: us => (virt i, ⟨verOf sv + 1, .val .any⟩) :: u :: us)).sat (AFn C.P) env U R') {Q : Exit → Act → World → Prop} :
    o.wp C.P a w (fun a' w' => FR C n (U ++ env) a' w') Q := by
  have hdn := dst_lt hok d hdst
  obtain ⟨s0, cc, e1, e2⟩ := hv.cells
  simp only [CR] at e2
  obtain ⟨us, rfl, hCT⟩ := e2
  simp only [CRT] at hCT
  subst hCT
  simp only [mkv, List.headD] at e1
  have hargs : (zipB args.toList flags).map (·.1) = args.toList := zipB_map _ _
  have hrunC : ∀ (hA : ∃ fn, C.P.funcs[f']? = some fn ∧ (fn.name == "runtime.NumGoroutine") = false ∧ fn.body.isNone = false), (execOp a.eval o).run C.P w = .ok (.enter f' (args.toList.map a.eval).toArray) w := by
    intro ⟨fn, g1, g2, g3⟩
    simp only [execOp, ho, Go.resolve, e1, Deferred.ofValue, Sem.run_bind, Sem.run_pure, Result.andThen_ok, invoke, run_callFunc g1 g2 g3]
    congr 2
    apply Array.ext'
    simp
  have hval : ∀ (j : Nat) (u : Value), (args.toList.map a.eval)[j]? = some u → ∃ y, (zipB args.toList flags)[j]? = some y ∧ u = a.eval y.1 := by
    intro j u hu
    rw [← hargs, List.map_map, List.getElem?_map] at hu
    cases hy : (zipB args.toList flags)[j]? with
    | none => simp [hy] at hu
    | some y => simp [hy] at hu; exact ⟨y, rfl, hu.symm⟩
  have hlenz : (zipB args.toList flags).length = args.toList.length := by rw [← hargs, List.length_map]; simp [hargs]
  rcases giveRd_sat hI hV (virt i) _ _ R' (fun y hy => opnd_ok hok (by
      simp [ho, Op.operands, Call.operands]; right
      have : y.1 ∈ (zipB args.toList flags).map (·.1) := List.mem_map.2 ⟨y, hy, rfl⟩
      rw [hargs] at this; simpa using this)) h2 with ⟨vs, R2, h3, hl, h4⟩ | ⟨vs, jg, v', xg, s, k, p, T0, R2, κ1, h3, hl, h4, h5, h6, h7, h8, h9, hI1⟩
  · simp only [Rd.sat] at h3
    obtain ⟨R3, ⟨R4, ⟨r, hAF, rfl, _⟩, _⟩, _⟩ := h3
    obtain ⟨hA, hcall⟩ := (AFn_lt hf).1 hAF
    have hcall' := hcall w (args.toList.map a.eval) (fun _ => none) (fun _ _ _ _ h => by cases h) (fun _ _ _ _ _ _ h => by cases h) (by simp only [List.length_map]; omega) (fun j t u hj hu => by
      obtain ⟨y, hy, rfl⟩ := hval j u hu
      obtain ⟨q1, q2⟩ := h4 j t y hj hy
      obtain ⟨s1, cs, q3, q4⟩ := q2.cells
      exact ⟨pure_refFree t q1, cs, q3, CR_pureE (X := cx C env w κ) (X' := argCx C.P w (fun _ => none)) rfl (fun _ _ => rfl) (fun b hb => ⟨Nat.lt_of_lt_of_le hb.1 hI.size, rfl⟩) t [] [] cs q1 q4⟩)
    unfold Oper.wp
    rw [hrunC hA]
    show Calls C.P f' _ w _
    refine hcall'.mono fun e w' hh => ?_
    obtain ⟨v, κ', rfl, hB⟩ := hh
    show FR C n _ (a.put o.dst v) w'
    rw [hdst]
    exact back_FR hd hn hI hV hdn hB
  · simp only [Rd.sat] at h3
    obtain ⟨R3, ⟨R4, ⟨r, hAF, rfl, _⟩, _⟩, _⟩ := h3
    obtain ⟨hA, hcall⟩ := (AFn_lt hf).1 hAF
    have hdv : d ≠ virt i := fun e => by have h1 : d < n := hdn; rw [e] at h1; simp [virt] at h1; omega
    let κc : Kap := fun b => match κ1 b with | some (u, q, v) => if u = virt i then some (jg, q, v) else none | none => none
    have hκc : ∀ b s p v, κc b = some (s, p, v) → s = jg ∧ κ1 b = some (virt i, p, v) := by
      intro b s p v hb
      simp only [κc] at hb
      cases hk : κ1 b with
      | none => simp [hk] at hb
      | some y =>
        obtain ⟨u, q, v1⟩ := y
        simp only [hk] at hb
        split at hb
        · rename_i e
          simp only [Option.some.injEq, Prod.mk.injEq] at hb
          obtain ⟨rfl, rfl, rfl⟩ := hb
          exact ⟨rfl, by rw [e]⟩
        · cases hb
    have hκn : ∀ b, κc b = none → ∀ u q v, κ1 b = some (u, q, v) → u ≠ virt i := by
      intro b hb u q v hk e
      subst e
      simp [κc, hk] at hb
    have hFc : ∀ b, C.F b → b < w.heap.size ∧ κc b = none := fun b hb => ⟨Nat.lt_of_lt_of_le hb.1 hI.size, by
      cases hk : κc b with
      | none => rfl
      | some y =>
        obtain ⟨s, p, v⟩ := y
        have := hκc b s p v hk
        exact absurd hb (hI1.col b _ _ _ this.2).2⟩
    have hcall' := hcall w (args.toList.map a.eval) κc (fun b s p v hb => (hI1.col b _ _ _ (hκc b s p v hb).2).1) (fun b b' s p v v' hb hb' => hI1.inj b b' _ _ _ _ (hκc b s p v hb).2 (hκc b' s p v' hb').2) (by simp only [List.length_map]; omega) (fun j t u hj hu => by
      obtain ⟨y, hy, rfl⟩ := hval j u hu
      by_cases e : j = jg
      · subst e
        rw [h4] at hj
        simp at hj; subst hj
        rw [h5] at hy
        simp at hy; subst hy
        obtain ⟨_, cs, q1, q2⟩ := hI1.own (virt i) _ _ (lk_same _ _ _)
        rw [upd_same] at q1
        exact ⟨h6, cs, q1, CR_carryF (X := cx C ((virt i, (⟨verOf (lk env (virt i)) + 1, .own v'⟩ : Slot)) :: (s, ⟨k, .own (T.set .any p T0)⟩) :: env) w κ1) (X' := argCx C.P w κc) (s := virt i) (p := []) rfl (fun b hb => ⟨hFc b hb, rfl⟩) (fun b q v hk => ⟨by
          have hk' : κ1 b = some (virt i, q, v) := hk
          show κc b = some (j, q, v)
          simp [κc, hk'], rfl⟩) h6 q2⟩
      · obtain ⟨q1, q2⟩ := h9 j t y e hj hy
        obtain ⟨s1, cs, q3, q4⟩ := q2.cells
        exact ⟨pure_refFree t q1, cs, q3, CR_pureE (X := cx C env w κ) (X' := argCx C.P w κc) rfl (fun _ _ => rfl) hFc t [] [] cs q1 q4⟩)
    unfold Oper.wp
    rw [hrunC hA]
    show Calls C.P f' _ w _
    refine hcall'.mono fun e w' hh => ?_
    obtain ⟨v, κ', rfl, hB⟩ := hh
    show FR C n _ (a.put o.dst v) w'
    rw [hdst]
    obtain ⟨cs, q1, q2⟩ := hB.res
    have hsame : ∀ b u q v, κ1 b = some (u, q, v) → u ≠ virt i → w'.heap[b]? = w.heap[b]? := fun b u q v hk hu => hB.kept b (hI1.col b u q v hk).1 (by simp [κc, hk, hu])
    have hVd : ∀ (y : Value) t, t < 1000000 → upd (upd V (virt i) (a.eval xg.1)) d y t = if t = d then y else a.tmps.getD t undef := fun y t ht => by
      by_cases e : t = d
      · simp [e, upd]
      · rw [upd_other _ _ _ _ e, if_neg e, upd_other _ _ _ _ (by simp [virt]; omega)]; exact hV t ht
    have hvd : verOf (lk ((virt i, (⟨verOf (lk env (virt i)) + 1, .own v'⟩ : Slot)) :: (s, ⟨k, .own (T.set .any p T0)⟩) :: env) d) = verOf (lk env d) := by
      rw [lk_other _ _ _ _ hdv]
      by_cases e : d = s
      · subst e; rw [lk_same, h8]; rfl
      · rw [lk_other _ _ _ _ e]
    by_cases hno : r.noOwn = true
    · have hmk : mkSV r = .val r := by simp [mkSV, hno]
      rw [hmk]
      obtain ⟨κ2, hI2, _⟩ := hI1.fresh [virt i] d .any [v] w' (fun _ => none) hB.os hB.tape hB.output hB.size (fun b hb => hB.kept b (hFc b hb).1 (hFc b hb).2) (fun b s p v hk hs _ => hsame b s p v hk (by simpa using hs))
        (fun _ _ _ h => by cases h) (fun _ _ _ _ _ h => by cases h) rfl (fun X' _ _ _ _ => by simp only [CR]; exact ⟨v, rfl⟩)
      have hI3 := hI2.bind d (verOf (lk env d) + 1) r v (by rw [lk_same, hvd]; exact Nat.le_refl _) hno 0 ⟨cs, q1, CR_noOwn (resCx C.P w' κ') (cx C _ w' κ2) 0 0 rfl (fun b hb => hb.elim) (fun u k q ho => ho.elim) r [] [] cs hno q2⟩
      refine (own_FR (v := v) hd hn hdn hI3 (fun t ht => ?_)).congr (fun t => ?_)
      · by_cases e : t = d
        · simp [e, upd]
        · rw [upd_other _ _ _ _ e]; exact hVd _ t ht
      · simp only [kill, List.map_cons, List.map_nil, List.cons_append, List.nil_append, lk, if_true, verOf]
        by_cases q1 : d = t
        · simp [q1]
        · simp only [q1, if_false]
          by_cases q2 : virt i = t
          · simp [q2]
          · simp [q2]
    · have hmk : mkSV r = .own r := by simp [mkSV, hno]
      rw [hmk]
      obtain ⟨κ2, hI2, _⟩ := hI1.fresh [virt i] d r cs w' (fun b => match κ' b with | some (0, p, v) => some (p, v) | _ => none) hB.os hB.tape hB.output hB.size (fun b hb => hB.kept b (hFc b hb).1 (hFc b hb).2) (fun b s p v hk hs _ => hsame b s p v hk (by simpa using hs))
        (fun b p v hb => by
          cases hk : κ' b with
          | none => simp [hk] at hb
          | some y =>
            obtain ⟨s', q, u⟩ := y
            have hc := hB.col b s' q u hk
            rcases hc.2 with hge | hne
            · refine ⟨hc.1, fun hF => by have := hF.1; have := hI.size; omega, fun s' p' v' hk' => ?_⟩
              have := (hI1.col b _ _ _ hk').1
              omega
            · cases hkc : κc b with
              | none => exact absurd hkc hne
              | some z =>
                obtain ⟨z1, z2, z3⟩ := z
                have hz := (hκc b z1 z2 z3 hkc).2
                refine ⟨hc.1, (hI1.col b _ _ _ hz).2, fun s' p' v' hk' => ?_⟩
                rw [hz] at hk'
                simp only [Option.some.injEq, Prod.mk.injEq] at hk'
                exact .inl (by simp [← hk'.1]))
        (fun b b' p v v' hb hb' => by
          cases hk : κ' b with
          | none => simp [hk] at hb
          | some y =>
            obtain ⟨s, q, u⟩ := y
            cases hk' : κ' b' with
            | none => simp [hk'] at hb'
            | some y' =>
              obtain ⟨s', q', u'⟩ := y'
              cases s with
              | succ s => simp [hk] at hb
              | zero =>
                cases s' with
                | succ s' => simp [hk'] at hb'
                | zero =>
                  simp [hk] at hb
                  simp [hk'] at hb'
                  obtain ⟨rfl, _⟩ := hb
                  obtain ⟨rfl, _⟩ := hb'
                  exact hB.inj b b' _ _ _ _ hk hk') hB.refFree
        (fun X' g1 g2 g3 g4 => CR_carryF (X := resCx C.P w' κ') (s := 0) (p := []) g1 (fun b hb => hb.elim) (fun b q v hk => ⟨g4 b q v (by have hk' : κ' b = some (0, q, v) := hk; simp [hk']), by rw [g2]; rfl⟩) hB.refFree q2)
      rw [← q1] at hI2
      refine (own_FR (v := v) hd hn hdn hI2 (hVd v)).congr (fun t => ?_)
      rw [hvd]
      simp only [kill, List.map_cons, List.map_nil, List.cons_append, List.nil_append, lk, if_true, verOf]
      by_cases q1 : d = t
      · simp [q1]
      · simp only [q1, if_false]
        by_cases q2 : virt i = t
        · simp [q2]
        · simp [q2]

end

end Go.Proofs.Ytjkhggbjkkobaaa

/-
  The generic part, a text between: calls that write into what their first argument leads to.
-/
import Derived.Test.YtjkhggbjkkobaaaMetaT
namespace Go.Proofs.Ytjkhggbjkkobaaa
open Go.RowKit

section
variable {C : Ctx} {env : Env} {V : Nat → Value} {w : World} {κ : Kap} {a : Act} {AF : FuncId → List T → T → Prop} {U : List (Nat × Slot)} {R : List Nat} {n : Nat}
variable {tt : Tt} {P : Program}

/-- The colours of what lies at the place p of slot s, seen from the place q of argument 0. -/
def sub0 (κ : Kap) (s : Nat) (p q : List Nat) : Kap := fun b =>
  match κ b with
  | some (u, r, v) => if u = s ∧ p <+: r then some (0, q ++ r.drop p.length, v) else none
  | none => none

theorem sub0_some {s : Nat} {p q : List Nat} {b u : Nat} {r : List Nat} {v : Value} (h : sub0 κ s p q b = some (u, r, v)) : ∃ r', κ b = some (s, p ++ r', v) ∧ u = 0 ∧ r = q ++ r' := by
  simp only [sub0] at h
  cases hk : κ b with
  | none => simp [hk] at h
  | some y =>
    obtain ⟨u1, r1, v1⟩ := y
    simp only [hk] at h
    split at h
    · rename_i hc
      obtain ⟨rfl, r', rfl⟩ := hc
      simp only [List.drop_left, Option.some.injEq, Prod.mk.injEq] at h
      obtain ⟨rfl, rfl, rfl⟩ := h
      exact ⟨r', rfl, rfl, rfl⟩
    · cases h

theorem sub0_at {s : Nat} {p q r : List Nat} {b : Nat} {v : Value} (h : κ b = some (s, p ++ r, v)) : sub0 κ s p q b = some (0, q ++ r, v) := by
  simp [sub0, h]

theorem io_core {f' : FuncId} (hd : a.defers = []) (hn : a.tmps.size = n) (hI : Inv C env V w κ) (hV : ∀ t, t < 1000000 → V t = a.tmps.getD t undef) {d : Nat} (hdn : d < n)
    {s k : Nat} {p q : List Nat} {T0 nd A : T} (hs : lk env s = some ⟨k, .own T0⟩) (hg : T.get p T0 = some nd) (hnd : nd.isNode = true) (hne : s ≠ d) {u1 h : Value} (hrA : A.refFree = true)
    (hcell : CR (cx C env w κ) s p nd [h]) (harg : VR (argCx C.P w (sub0 κ s p q)) 0 A u1)
    (hext : ∀ (A' : T) (X : Cx), A'.refFree = true → Shape A A' → VR X 0 A' u1 → ∃ n', T.get q A' = some n' ∧ n'.isNode = true ∧ n'.refFree = true ∧ CR X 0 q n' [h])
    {ku : IntKind} {nu : Int} {r : T} (hAF : AFn C.P (1000000 + f') [A, .int ku nu] r) {o : Oper} (hdst : o.dst = some d)
    (hrun : ∀ (_ : ∃ fn, C.P.funcs[f']? = some fn ∧ (fn.name == "runtime.NumGoroutine") = false ∧ fn.body.isNone = false), (execOp a.eval o).run C.P w = .ok (.enter f' #[u1, .int ku nu]) w) {Q : Exit → Act → World → Prop} :
    o.wp C.P a w (fun a' w' => FR C n (ioUps d (lk env d) s k p T0 q r ++ env) a' w') Q := by
  obtain ⟨hfn, A1, ku1, nu1, k1, n1, A', e1, rfl, hr', hsh, hcall⟩ := AFn_io.1 hAF
  simp only [List.cons.injEq, T.int.injEq, and_true] at e1
  obtain ⟨rfl, rfl, rfl⟩ := e1
  have hc := hcall w u1 (sub0 κ s p q) (fun b s' p' v hb => by
      obtain ⟨r', h1, _, _⟩ := sub0_some hb
      exact (hI.col b _ _ _ h1).1) (fun b b' s' p' v v' hb hb' => by
      obtain ⟨r1, h1, _, h2⟩ := sub0_some hb
      obtain ⟨r2, h3, _, h4⟩ := sub0_some hb'
      have : r1 = r2 := List.append_cancel_left (h2.symm.trans h4)
      subst this
      exact hI.inj b b' _ _ _ _ h1 h3) hrA harg
  unfold Oper.wp
  rw [hrun hfn]
  show Calls C.P f' _ w _
  refine hc.mono fun e w' hh => ?_
  obtain ⟨rfl, g1, g2, g3, g4, g5, g6⟩ := hh
  show FR C n _ (a.put o.dst (.int k1 n1)) w'
  rw [hdst]
  obtain ⟨n', hq, hn', hrn, hCR⟩ := hext A' _ hr' hsh g6
  have hFn : ∀ b, C.F b → sub0 κ s p q b = none := fun b hb => by
    cases hk : sub0 κ s p q b with
    | none => rfl
    | some y =>
      obtain ⟨u, r, v⟩ := y
      obtain ⟨r', h1, _, _⟩ := sub0_some hk
      exact absurd hb (hI.col b _ _ _ h1).2
  have hkeep : ∀ b u r v, κ b = some (u, r, v) → ¬ (u = s ∧ p <+: r) → w'.heap[b]? = w.heap[b]? := fun b u r v hk hnn => g5 b (hI.col b _ _ _ hk).1 (by simp [sub0, hk, hnn])
  let κo : Nat → Option (List Nat × Value) := fun b => match κ b with | some (u, r, v) => if u = s ∧ p <+: r then some (r.drop p.length, v) else none | none => none
  have hκo : ∀ b r v, κo b = some (r, v) → κ b = some (s, p ++ r, v) := by
    intro b r v hb
    simp only [κo] at hb
    cases hk : κ b with
    | none => simp [hk] at hb
    | some y =>
      obtain ⟨u1, r1, v1⟩ := y
      simp only [hk] at hb
      split at hb
      · rename_i hc
        obtain ⟨rfl, r', rfl⟩ := hc
        simp only [List.drop_left, Option.some.injEq, Prod.mk.injEq] at hb
        obtain ⟨rfl, rfl⟩ := hb
        rfl
      · cases hb
  have hκa : ∀ b r v, κ b = some (s, p ++ r, v) → κo b = some (r, v) := by
    intro b r v hb
    simp [κo, hb]
  have hcol2 : ∀ b r v, κo b = some (r, v) → ∀ u r v, κ b = some (u, r, v) → (u = s ∧ p <+: r) ∨ u ∈ ([] : List Nat) := fun b r v hb u r' v' hk => by
    rw [hκo b r v hb] at hk
    simp only [Option.some.injEq, Prod.mk.injEq] at hk
    obtain ⟨rfl, rfl, _⟩ := hk
    exact .inl ⟨rfl, List.prefix_append _ _⟩
  have hput := hI.put s k (k + 1) T0 nd n' p [] κo w' hs (by simp) hg (by rw [isAgg_of_isNode hnd, isAgg_of_isNode hn']) hrn g1 g2 g3 g4
    (fun b hb => g5 b (Nat.lt_of_lt_of_le hb.1 hI.size) (hFn b hb)) (fun b u r v hk _ hu => hkeep b u r v hk (fun hx => hu hx.1))
    (fun b r v hb => ⟨Nat.lt_of_lt_of_le (hI.col b _ _ _ (hκo b r v hb)).1 g4, (hI.col b _ _ _ (hκo b r v hb)).2⟩) hcol2
    (fun b b' r v v' hb hb' => hI.inj b b' _ _ _ _ (hκo b r v hb) (hκo b' r v' hb')) (.inl rfl)
    (fun cs X' f1 f2 f3 f4 f5 hT => by
      obtain ⟨cs0, h6, h7⟩ := CR_focus (X' := X') p T0 [] cs nd n' hg hT (by rw [size_of_isNode hnd, size_of_isNode hn']) (by rw [isAgg_of_isNode hnd, isAgg_of_isNode hn'])
        ⟨f1, fun b hb => ⟨by rw [f3]; exact hb, by rw [f2]; exact g5 b (Nat.lt_of_lt_of_le hb.1 hI.size) (hFn b hb)⟩, fun b r v hk hnp => by
          simp only [List.nil_append] at hk ⊢
          have hnn : ¬ (s = s ∧ p <+: r) := fun hx => hnp hx.2
          exact ⟨by rw [f4]; exact recol_old hcol2 hk (by simp [hnp]), by rw [f2]; exact hkeep b s r v hk hnn⟩, f5⟩
      refine h7 ?_
      simp only [List.nil_append] at h6 ⊢
      have hcs : cs0 = [h] := by
        obtain ⟨b1, cap1, cur1, m1, m2, m3⟩ := hI.node_at hs hg hnd
        have key : ∀ {cs1 cs2 : List Value}, CR (cx C env w κ) s p nd cs1 → CR (cx C env w κ) s p nd cs2 → cs1 = cs2 := by
          intro cs1 cs2 c1 c2
          obtain ⟨b2, cap2, cur2, rfl, _, x2, _⟩ := node_view hnd c1
          obtain ⟨b3, cap3, cur3, rfl, _, x3, _⟩ := node_view hnd c2
          have hb := hI.inj b2 b3 s p _ _ x2 x3
          subst hb
          rw [x2] at x3
          simp only [Option.some.injEq, Prod.mk.injEq, true_and] at x3
          rw [x3]
        exact key h6 hcell
      subst hcs
      refine CR_carryF (X := resCx C.P w' (sub0 κ s p q)) (X' := X') f1 (fun b hb => hb.elim) (fun b r v hk => ?_) hrn hCR
      · obtain ⟨r', h1, _, h2⟩ := sub0_some hk
        have : r = r' := List.append_cancel_left h2
        subst this
        exact ⟨by rw [f4]; exact recol_new (hκa b r v h1), by rw [f2]; rfl⟩)
  simp only [ioUps, hq]
  have hk0 : kill [] env = env := rfl
  rw [hk0] at hput
  have hb := hput.bind d (verOf (lk env d) + 1) (.int k1 n1) (.int k1 n1) (by rw [lk_other _ _ _ _ (fun e => hne e.symm)]; omega) rfl 0 ⟨[.int k1 n1], rfl, by simp only [CR]⟩
  refine own_FR hd hn hdn hb (fun t ht => ?_)
  by_cases e : t = d
  · simp [e, upd]
  · rw [upd_other _ _ _ _ e, if_neg e]; exact hV t ht

theorem node_cs {X : Cx} {s : Nat} {p : List Nat} {nd : T} {cs : List Value} (hn : nd.isNode = true) (h : CR X s p nd cs) {v : Value} (hv : v = mkv nd cs) : cs = [v] := by
  have hl := CR_len _ _ _ _ _ h
  rw [size_of_isNode hn] at hl
  match cs, hl with
  | [c], _ =>
    have : mkv nd [c] = c := by cases nd <;> simp_all [T.isNode, mkv]
    rw [hv, this]

theorem op_callIO {f' : FuncId} (hd : a.defers = []) (hn : a.tmps.size = n) (hI : Inv C env V w κ) (hV : ∀ t, t < 1000000 → V t = a.tmps.getD t undef) {x y1 y2 : Operand} {args : Array Operand} {ty : Array TypeId} {o : Oper} (ho : o.op = .call { callee := .value x, args := args, argTypes := ty }) (hok : opOk n o = true)
    {d : Nat} (hdst : o.dst = some d) (hv : HV (cx C env w κ) (.fn f' []) (a.eval x)) (hargs : args.toList = [y1, y2]) {R' : List Nat}
    (h2 : (ioRd d f' y1 y2).sat (AFn C.P) env U R') {Q : Exit → Act → World → Prop} :
    o.wp C.P a w (fun a' w' => FR C n (U ++ env) a' w') Q := by
  have hdn := dst_lt hok d hdst
  obtain ⟨s0, cc, e1, e2⟩ := hv.cells
  simp only [CR] at e2
  obtain ⟨us, rfl, hCT⟩ := e2
  simp only [CRT] at hCT
  subst hCT
  simp only [mkv, List.headD] at e1
  have hopd : ∀ y ∈ args.toList, opndOk y = true := fun y hy => opnd_ok hok (by simp [ho, Op.operands, Call.operands]; right; simpa using hy)
  have hrunC : ∀ (hA : ∃ fn, C.P.funcs[f']? = some fn ∧ (fn.name == "runtime.NumGoroutine") = false ∧ fn.body.isNone = false), (execOp a.eval o).run C.P w = .ok (.enter f' #[a.eval y1, a.eval y2]) w := by
    intro ⟨fn, g1, g2, g3⟩
    simp only [execOp, ho, Go.resolve, e1, Deferred.ofValue, Sem.run_bind, Sem.run_pure, Result.andThen_ok, invoke, run_callFunc g1 g2 g3]
    congr 2
    apply Array.ext'
    simp [hargs]
  unfold ioRd at h2
  obtain ⟨v, R1, h3, hv1⟩ := rdv_sat hI hV (hopd y1 (by simp [hargs])) h2
  obtain ⟨u, R2, h4, hu⟩ := rdv_sat hI hV (hopd y2 (by simp [hargs])) h3
  split at h4
  · rename_i ku nu
    have hu' := hu.int
    split at h4
    · rename_i s k p
      split at h4
      · simp [Rd.sat] at h4
      · rename_i hne
        obtain ⟨T0, nd, R3, hs, hg, hnd, h5⟩ := rdn_sat h4
        simp only [Rd.sat] at h5
        obtain ⟨R4, ⟨r, hA, rfl, _⟩, _⟩ := h5
        have hr0 := refFree_get p T0 nd hg (hI.own s k T0 hs).1
        obtain ⟨s1, hc⟩ := hv1.ref_cells
        obtain ⟨b, cap, cur, k1, k2, k3, k4⟩ := hI.ref_eq hs hg hnd hc
        refine io_core (f' := f') (q := []) (A := nd) (u1 := a.eval y1) (h := a.eval y1) hd hn hI hV hdn hs hg hnd hne hr0 k2 ?_ ?_ hA hdst (fun hA => by rw [← hu']; exact hrunC hA)
        · refine ⟨[a.eval y1], by cases nd <;> simp_all [T.isNode, mkv], ?_⟩
          exact CR_carryF (X := cx C env w κ) (X' := argCx C.P w (sub0 κ s p [])) rfl (fun b hb => ⟨⟨Nat.lt_of_lt_of_le hb.1 hI.size, by
            cases hk : sub0 κ s p [] b with
            | none => rfl
            | some y =>
              obtain ⟨u, r, v⟩ := y
              obtain ⟨r', h1, _, _⟩ := sub0_some hk
              exact absurd hb (hI.col b _ _ _ h1).2⟩, rfl⟩) (fun b q v hk => ⟨sub0_at hk, rfl⟩) hr0 k2
        · intro A' X hrf hsh hVR
          have hnA : A'.isNode = true := by
            rcases hsh with h | ⟨l, l', e, _⟩
            · exact h.2
            · rw [e] at hnd; simp [T.isNode] at hnd
          obtain ⟨cs, q1, q2⟩ := hVR
          have := node_cs hnA q2 q1
          subst this
          exact ⟨A', by simp [T.get], hnA, hrf, q2⟩
    · rename_i l
      split at h4
      · rename_i j s k p hh
        split at h4
        · simp [Rd.sat] at h4
        · rename_i hne
          split at h4
          · rename_i hcond
            simp only [Bool.and_eq_true] at hcond
            obtain ⟨T0, nd, R3, hs, hg, hnd, h5⟩ := rdn_sat h4
            simp only [Rd.sat] at h5
            obtain ⟨R4, ⟨r, hA, rfl, _⟩, _⟩ := h5
            have hr0 := refFree_get p T0 nd hg (hI.own s k T0 hs).1
            have hj := holeAt_get l j s k p hh
            obtain ⟨s1, cs, c1, c2⟩ := hv1.cells
            simp only [CR] at c2
            have c3 := CRL_at l j 0 cs _ hj c2
            simp only [T.size] at c3
            obtain ⟨b, cap, cur, k1, k2, k3, k4⟩ := hI.ref_eq hs hg hnd c3
            have hrf : (T.agg (l.set j nd)).refFree = true := by simp only [T.refFree]; exact refFreeL_eraseIdx_set l j nd hcond.2 hr0
            have hF : ∀ b, (cx C env w κ).F b → (argCx C.P w (sub0 κ s p [j])).F b ∧ (argCx C.P w (sub0 κ s p [j])).w.heap[b]? = (cx C env w κ).w.heap[b]? := fun b hb => ⟨⟨Nat.lt_of_lt_of_le hb.1 hI.size, by
              cases hk : sub0 κ s p [j] b with
              | none => rfl
              | some y =>
                obtain ⟨u, r, v⟩ := y
                obtain ⟨r', h1, _, _⟩ := sub0_some hk
                exact absurd hb (hI.col b _ _ _ h1).2⟩, rfl⟩
            have hcell : CR (cx C env w κ) s p nd [headOf nd b cap] := by rw [← k1]; exact k2
            refine io_core (f' := f') (q := [j]) (A := .agg (l.set j nd)) (u1 := a.eval y1) (h := headOf nd b cap) hd hn hI hV hdn hs hg hnd hne hrf hcell ?_ ?_ hA hdst (fun hA => by rw [← hu']; exact hrunC hA)
            · refine ⟨cs, by rw [c1]; rfl, ?_⟩
              simp only [CR]
              refine CRL_fill (X := cx C env w κ) (X' := argCx C.P w (sub0 κ s p [j])) rfl hF rfl (size_of_isNode hnd) l j 0 [] [] cs hj hcond.1 c2 ?_
              rw [k1]
              simpa using CR_carryF (X := cx C env w κ) (X' := argCx C.P w (sub0 κ s p [j])) (s' := 0) (p' := [j]) rfl hF (fun b q v hk => ⟨sub0_at hk, rfl⟩) hr0 hcell
            · intro A' X hrf' hsh hVR
              rcases hsh with hx | ⟨l1, l', e1, rfl, hsz, hnode⟩
              · simp [T.isNode] at hx
              · simp only [T.agg.injEq] at e1
                subst e1
                have hjl : j < l.length := (List.getElem?_eq_some_iff.1 hj).1
                obtain ⟨n', g1, g2⟩ := hnode j nd (by simp [hjl]) hnd
                refine ⟨n', by simp [T.get, g1], g2, ?_, ?_⟩
                · simp only [T.refFree] at hrf'
                  exact (refFreeL_iff l').1 hrf' n' (List.mem_of_getElem? g1)
                · obtain ⟨cs', q1, q2⟩ := hVR
                  have hcs : cs' = cs := by
                    rw [c1] at q1
                    simpa [mkv] using q1.symm
                  subst hcs
                  simp only [CR] at q2
                  have := CRL_at l' j 0 cs' n' g1 q2
                  rw [size_of_isNode g2, hsz j] at this
                  have hst : T.sizeL ((l.set j nd).take j) = T.sizeL (l.take j) := by rw [List.take_set_of_le (Nat.le_refl _)]
                  rw [hst, k1] at this
                  simpa using this
          · simp [Rd.sat] at h4
      · simp [Rd.sat] at h4
    · simp [Rd.sat] at h4
  · simp [Rd.sat] at h4

end

end Go.Proofs.Ytjkhggbjkkobaaa

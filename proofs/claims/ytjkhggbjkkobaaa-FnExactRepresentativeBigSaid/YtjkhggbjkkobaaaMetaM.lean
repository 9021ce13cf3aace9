/-
  The generic part, thirteenth text: operations that make blocks, take trees out of their places, store.
-/
import Derived.Test.YtjkhggbjkkobaaaMetaL
namespace Go.Proofs.Ytjkhggbjkkobaaa
open Go.RowKit

mutual
/-- Trees without handles do not lean on what is known of handles. -/
theorem CR_refFree {X X' : Cx} (hsz : X'.sz = X.sz) (hw : X'.w = X.w) (hF : X'.F = X.F) (hk : X'.kap = X.kap) (s : Nat) : ∀ (t : T) (p : List Nat) (cs : List Value), t.refFree = true → CR X s p t cs → CR X' s p t cs
  | .int .., _, _, _, h => by simpa only [CR] using h
  | .bool .., _, _, _, h => by simpa only [CR] using h
  | .str .., _, _, _, h => by simpa only [CR] using h
  | .any, _, _, _, h => by simpa only [CR] using h
  | .nil, _, _, _, h => by simpa only [CR] using h
  | .sl true e l, p, cs, hr, h => by
    simp only [CR, hsz, hw, hk] at h ⊢
    obtain ⟨b, cap, cur, h1, h2, h3, h4, h5, h6, h7, h8⟩ := h
    exact ⟨b, cap, cur, h1, h2, h3, h4, h5, h6, h7, CRL_refFree hsz hw hF hk s l p 0 _ (by simpa [T.refFree] using hr) h8⟩
  | .sl false e l, p, cs, hr, h => by
    simp only [CR, hsz, hw, hF] at h ⊢
    obtain ⟨a, cap, h1, h2, h3, h4, h5, h6⟩ := h
    refine ⟨a, cap, h1, h2, h3, h4, h5, fun hl => ?_⟩
    obtain ⟨b, off, g1, g2, cur, e', fz, g3, g4, g5⟩ := h6 hl
    exact ⟨b, off, g1, g2, cur, e', fz, g3, g4, CRL_refFree hsz hw hF hk s l p 0 _ (by simpa [T.refFree] using hr) g5⟩
  | .box e t, p, cs, hr, h => by
    simp only [CR, hsz, hw, hk] at h ⊢
    obtain ⟨b, cur, h1, h2, h3, h4, h5, h6⟩ := h
    exact ⟨b, cur, h1, h2, h3, h4, h5, CR_refFree hsz hw hF hk s t _ _ (by simpa [T.refFree] using hr) h6⟩
  | .fptr t, p, cs, hr, h => by
    simp only [CR, hw, hF] at h ⊢
    obtain ⟨b, off, cur, e, fz, h1, h2, h3, h4, h5, h6⟩ := h
    exact ⟨b, off, cur, e, fz, h1, h2, h3, h4, h5, CR_refFree hsz hw hF hk s t _ _ (by simpa [T.refFree] using hr) h6⟩
  | .agg l, p, cs, hr, h => by
    simp only [CR] at h ⊢
    exact CRL_refFree hsz hw hF hk s l p 0 _ (by simpa [T.refFree] using hr) h
  | .tup l, p, cs, hr, h => by
    simp only [CR] at h ⊢
    obtain ⟨vs, h1, h2⟩ := h
    exact ⟨vs, h1, CRT_refFree hsz hw hF hk s l p 0 _ (by simpa [T.refFree] using hr) h2⟩
  | .fn f l, p, cs, hr, h => by
    simp only [CR] at h ⊢
    obtain ⟨vs, h1, h2⟩ := h
    exact ⟨vs, h1, CRT_refFree hsz hw hF hk s l p 0 _ (by simpa [T.refFree] using hr) h2⟩
  | .ref .., p, cs, hr, h => by simp [T.refFree] at hr
  | .addr .., p, cs, hr, h => by simp [T.refFree] at hr
theorem CRL_refFree {X X' : Cx} (hsz : X'.sz = X.sz) (hw : X'.w = X.w) (hF : X'.F = X.F) (hk : X'.kap = X.kap) (s : Nat) : ∀ (l : List T) (p : List Nat) (i : Nat) (cs : List Value), T.refFreeL l = true → CRL X s p i l cs → CRL X' s p i l cs
  | [], _, _, _, _, h => by simpa only [CRL] using h
  | t :: l, p, i, cs, hr, h => by
    simp only [CRL] at h ⊢
    simp only [T.refFreeL, Bool.and_eq_true] at hr
    exact ⟨CR_refFree hsz hw hF hk s t _ _ hr.1 h.1, CRL_refFree hsz hw hF hk s l p (i + 1) _ hr.2 h.2⟩
theorem CRT_refFree {X X' : Cx} (hsz : X'.sz = X.sz) (hw : X'.w = X.w) (hF : X'.F = X.F) (hk : X'.kap = X.kap) (s : Nat) : ∀ (l : List T) (p : List Nat) (i : Nat) (vs : List Value), T.refFreeL l = true → CRT X s p i l vs → CRT X' s p i l vs
  | [], _, _, _, _, h => by simpa only [CRT] using h
  | t :: l, p, i, vs, hr, h => by
    simp only [CRT] at h ⊢
    simp only [T.refFreeL, Bool.and_eq_true] at hr
    obtain ⟨⟨v, cs, h1, h2, h3⟩, h4⟩ := h
    exact ⟨⟨v, cs, h1, h2, CR_refFree hsz hw hF hk s t _ _ hr.1 h3⟩, CRT_refFree hsz hw hF hk s l p (i + 1) _ hr.2 h4⟩
end

/-- A tree without handles, carried. -/
theorem CR_carryF {X X' : Cx} {s s' : Nat} {t : T} {p p' : List Nat} {cs : List Value} (hsz : X'.sz = X.sz) (hF : ∀ b, X.F b → X'.F b ∧ X'.w.heap[b]? = X.w.heap[b]?)
    (hk : ∀ b q v, X.kap b = some (s, p ++ q, v) → X'.kap b = some (s', p' ++ q, v) ∧ X'.w.heap[b]? = X.w.heap[b]?) (hr : t.refFree = true) (h : CR X s p t cs) : CR X' s' p' t cs := by
  have h1 : CR { X' with old := X.old, node := fun _ _ _ => False } s' p' t cs :=
    CR_carry X _ s s' t p p' cs ⟨hsz, hF, hk, fun u k q ho => ⟨ho, fun hn => hn.elim⟩⟩ h
  exact CR_refFree (X' := X') (X := { X' with old := X.old, node := fun _ _ _ => False }) rfl rfl rfl rfl s' t p' cs hr h1

section
variable {C : Ctx} {env : Env} {V : Nat → Value} {w : World} {κ : Kap} {a : Act} {AF : FuncId → List T → T → Prop} {U : List (Nat × Slot)} {R : List Nat} {n : Nat}
variable {tt : Tt} {P : Program}

/-- ████ A block's tree is moved: out of its place, into slot d, as a part of a new tree. -/
theorem Inv.moveNode (h : Inv C env V w κ) {s k : Nat} {T0 nd : T} {p : List Nat} (hs : lk env s = some ⟨k, .own T0⟩) (hg : T.get p T0 = some nd) (hn : nd.isNode = true) {d : Nat} (hd : d ≠ s) (x' : T) (hp : List Nat) (cs : List Value)
    (hrf : x'.refFree = true)
    (hx : ∀ (b cap : Nat) (X' : Cx), κ b = some (s, p, headOf nd b cap) → X'.sz = C.P.cellsOf → X'.w = w → X'.F = C.F → CR X' d hp nd [headOf nd b cap] → CR X' d [] x' cs) :
    ∃ κ', Inv C ((d, ⟨verOf (lk env d) + 1, .own x'⟩) :: (s, ⟨k, .own (T.set .any p T0)⟩) :: env) (upd V d (mkv x' cs)) w κ' ∧ ∀ b u q v, u ≠ d → u ≠ s → κ b = some (u, q, v) → κ' b = some (u, q, v) := by
  obtain ⟨b0, cap0, cur0, g1, g2, g3⟩ := h.node_at hs hg hn
  have hr0 : nd.refFree = true := by
    have : ∀ (q : List Nat) (t n : T), T.get q t = some n → t.refFree = true → n.refFree = true := by
      intro q
      induction q with
      | nil => intro t n h1 h2; simp [T.get] at h1; subst h1; exact h2
      | cons i q ih =>
        intro t n h1 h2
        have hl : ∀ (l : List T), (l[i]?).bind (T.get q) = some n → T.refFreeL l = true → n.refFree = true := by
          intro l h3 h4
          cases hx : l[i]? with
          | none => simp [hx] at h3
          | some x => simp [hx] at h3; exact ih x n h3 ((refFreeL_iff l).1 h4 x (List.mem_of_getElem? hx))
        cases t with
        | agg l => exact hl l (by simpa [T.get] using h1) (by simpa [T.refFree] using h2)
        | tup l => exact hl l (by simpa [T.get] using h1) (by simpa [T.refFree] using h2)
        | sl o e l =>
          cases o with
          | false => simp [T.get] at h1
          | true => exact hl l (by simpa [T.get] using h1) (by simpa [T.refFree] using h2)
        | box e t =>
          cases i with
          | succ i => simp [T.get] at h1
          | zero => exact ih t n (by simpa [T.get] using h1) (by simpa [T.refFree] using h2)
        | _ => simp [T.get] at h1
    exact this p T0 nd hg (h.own s k T0 hs).1
  have h1 := h.takeOut hs hg hn
  have hv1 : verOf (lk ((s, (⟨k, .own (T.set .any p T0)⟩ : Slot)) :: env) d) = verOf (lk env d) := by rw [lk_other _ _ _ _ hd]
  have key := h1.fresh [] d x' cs w (fun b => match κ b with | some (u, r, v) => if u = s ∧ p <+: r then some (hp ++ r.drop p.length, v) else none | none => none)
    rfl rfl rfl (Nat.le_refl _) (fun _ _ => rfl) (fun _ _ _ _ _ _ _ => rfl) (fun b q v hb => ?_) (fun b b' q v v' hb hb' => ?_) hrf (fun X' e1 e2 e3 e4 => ?_)
  · rw [hv1] at key
    obtain ⟨κ', key, hkeep⟩ := key
    refine ⟨κ', by simpa [kill] using key, fun b u q v h1 h2 hk => hkeep b u q v h1 (by simp) ?_⟩
    exact recol_old (fun _ _ _ h => by cases h) hk (by simp [h2])
  · cases hk : κ b with
    | none => simp [hk] at hb
    | some y =>
      obtain ⟨u, r, v1⟩ := y
      simp only [hk] at hb
      split at hb
      · rename_i hc
        refine ⟨(h.col b _ _ _ hk).1, (h.col b _ _ _ hk).2, fun s' p' v' hr => ?_⟩
        rcases recol_inv hr with ⟨_, _, _, ho⟩ | ⟨hnn, hb', _⟩
        · cases ho
        · rw [hk] at hb'
          simp only [Option.some.injEq, Prod.mk.injEq] at hb'
          obtain ⟨rfl, rfl, rfl⟩ := hb'
          exact absurd (.inl hc) hnn
      · cases hb
  · cases hk : κ b with
    | none => simp [hk] at hb
    | some y =>
      obtain ⟨u, r, v1⟩ := y
      cases hk' : κ b' with
      | none => simp [hk'] at hb'
      | some y' =>
        obtain ⟨u', r', v1'⟩ := y'
        simp only [hk] at hb
        simp only [hk'] at hb'
        split at hb
        · split at hb'
          · rename_i hc hc'
            simp only [Option.some.injEq, Prod.mk.injEq] at hb hb'
            obtain ⟨rfl, ⟨r1, rfl⟩⟩ := hc
            obtain ⟨rfl, ⟨r1', rfl⟩⟩ := hc'
            have e : r1 = r1' := by
              have := hb.1.trans hb'.1.symm
              have := List.append_cancel_left this
              simpa using this
            subst e
            exact h.inj b b' _ _ _ _ hk hk'
          · cases hb'
        · cases hb
  · refine hx b0 cap0 X' g3 e1 e2 e3 ?_
    refine CR_carryF (X := cx C env w κ) (s := s) (p := p) e1 (fun b hb => ⟨by rw [e3]; exact hb, by rw [e2]; rfl⟩) (fun b q v hk => ⟨?_, by rw [e2]; rfl⟩) hr0 g1
    have hk' : κ b = some (s, p ++ q, v) := hk
    exact e4 b (hp ++ q) v (by simp [hk'])

theorem holeAt_get : ∀ (l : List T) (j s k : Nat) (p : List Nat), holeAt l = some (j, s, k, p) → l[j]? = some (.ref s k p)
  | [], j, s, k, p, h => by simp [holeAt] at h
  | t :: l, j, s, k, p, h => by
    by_cases hr : ∃ s' k' p', t = .ref s' k' p'
    · obtain ⟨s', k', p', rfl⟩ := hr
      simp only [holeAt, Option.some.injEq, Prod.mk.injEq] at h
      obtain ⟨rfl, rfl, rfl, rfl⟩ := h
      rfl
    · have e : holeAt (t :: l) = (holeAt l).map fun x => (x.1 + 1, x.2) := by
        cases t <;> first | rfl | exact absurd ⟨_, _, _, rfl⟩ hr
      rw [e] at h
      cases hh : holeAt l with
      | none => simp [hh] at h
      | some y =>
        obtain ⟨j', s', k', p'⟩ := y
        simp only [hh, Option.map_some, Option.some.injEq, Prod.mk.injEq] at h
        obtain ⟨rfl, rfl, rfl, rfl⟩ := h
        simpa using holeAt_get l j' s' k' p' hh

/-- A row of data with a tree put where the handle was. -/
theorem CRL_fill {X X' : Cx} {s0 d : Nat} (hsz : X'.sz = X.sz) (hF : ∀ b, X.F b → X'.F b ∧ X'.w.heap[b]? = X.w.heap[b]?) {nd x : T} (hx1 : x.size = 1) (hn1 : nd.size = 1) : ∀ (l : List T) (j i : Nat) (p p' : List Nat) (cs : List Value), l[j]? = some x → T.pureL (l.eraseIdx j) = true →
    CRL X s0 p i l cs → CR X' d (p' ++ [i + j]) nd ((cs.drop (T.sizeL (l.take j))).take 1) → CRL X' d p' i (l.set j nd) cs
  | [], j, i, p, p', cs, hj, _, _, _ => by simp at hj
  | t :: l, 0, i, p, p', cs, hj, hp, h, hn => by
    simp at hj; subst hj
    simp only [CRL, List.set_cons_zero, hx1, hn1] at h ⊢
    simp only [List.eraseIdx_zero, List.tail_cons] at hp
    exact ⟨by simpa [T.sizeL] using hn, CRL_pure X X' s0 d hsz hF l p p' (i + 1) _ hp h.2⟩
  | t :: l, j + 1, i, p, p', cs, hj, hp, h, hn => by
    simp at hj
    simp only [List.eraseIdx_cons_succ, T.pureL, Bool.and_eq_true] at hp
    simp only [CRL, List.set_cons_succ] at h ⊢
    refine ⟨CR_pure X X' s0 d hsz hF t _ _ _ hp.1 h.1, CRL_fill hsz hF hx1 hn1 l j (i + 1) p p' _ hj hp.2 h.2 ?_⟩
    rw [List.drop_drop, show i + 1 + j = i + (j + 1) by omega]
    simpa [T.sizeL] using hn

theorem size_of_isNode {nd : T} (hn : nd.isNode = true) : nd.size = 1 := by cases nd <;> simp_all [T.isNode, T.size]
theorem isAgg_of_isNode {nd : T} (hn : nd.isNode = true) : nd.isAgg = false := by cases nd <;> simp_all [T.isNode, T.isAgg]

theorem refFreeL_eraseIdx_set (l : List T) (j : Nat) (u : T) (h : T.refFreeL (l.eraseIdx j) = true) (hu : u.refFree = true) : T.refFreeL (l.set j u) = true := by
  induction l generalizing j with
  | nil => simp [T.refFreeL]
  | cons t l ih =>
    cases j with
    | zero => simp only [List.eraseIdx_zero, List.tail_cons] at h; simp [T.refFreeL, hu, h]
    | succ j =>
      simp only [List.eraseIdx_cons_succ, T.refFreeL, Bool.and_eq_true] at h
      simp [T.refFreeL, h.1, ih j h.2]

theorem refFree_get : ∀ (q : List Nat) (t n : T), T.get q t = some n → t.refFree = true → n.refFree = true
  | [], t, n, h1, h2 => by simp [T.get] at h1; subst h1; exact h2
  | i :: q, t, n, h1, h2 => by
    have hl : ∀ (l : List T), (l[i]?).bind (T.get q) = some n → T.refFreeL l = true → n.refFree = true := by
      intro l h3 h4
      cases hx : l[i]? with
      | none => simp [hx] at h3
      | some x => simp [hx] at h3; exact refFree_get q x n h3 ((refFreeL_iff l).1 h4 x (List.mem_of_getElem? hx))
    cases t with
    | agg l => exact hl l (by simpa [T.get] using h1) (by simpa [T.refFree] using h2)
    | tup l => exact hl l (by simpa [T.get] using h1) (by simpa [T.refFree] using h2)
    | sl o e l =>
      cases o with
      | false => simp [T.get] at h1
      | true => exact hl l (by simpa [T.get] using h1) (by simpa [T.refFree] using h2)
    | box e t =>
      cases i with
      | succ i => simp [T.get] at h1
      | zero => exact refFree_get q t n (by simpa [T.get] using h1) (by simpa [T.refFree] using h2)
    | _ => simp [T.get] at h1

/-- ████ Taking: plain data stays as it is; a handle's tree is moved into the slot d. -/
theorem take_sat (hI : Inv C env V w κ) {d : Nat} {v : T} {u : Value} {c : T → List (Nat × Slot) → Rd} (hv : HV (cx C env w κ) v u) (h : (take d v c).sat AF env U R) :
    (v.pure = true ∧ v.refFree = true ∧ (c v []).sat AF env U R) ∨
    (∃ s k p T0 nd v' R', s ≠ d ∧ lk env s = some ⟨k, .own T0⟩ ∧ T.get p T0 = some nd ∧ nd.isNode = true ∧ v'.refFree = true ∧ v'.isAgg = v.isAgg ∧ v'.size = v.size ∧
      (c v' [(s, ⟨k, .own (T.set .any p T0)⟩)]).sat AF env U R' ∧
      ∃ κ', Inv C ((d, ⟨verOf (lk env d) + 1, .own v'⟩) :: (s, ⟨k, .own (T.set .any p T0)⟩) :: env) (upd V d u) w κ' ∧ ∀ b u q v, u ≠ d → u ≠ s → κ b = some (u, q, v) → κ' b = some (u, q, v)) := by
  unfold take at h
  split at h
  · rename_i hc
    simp only [Bool.and_eq_true] at hc
    exact .inl ⟨hc.1, hc.2, h⟩
  · rename_i hcnd
    clear hcnd
    refine .inr ?_
    cases v <;> try (simp [Rd.sat] at h; done)
    case ref s k p =>
      simp only at h
      split at h
      · simp [Rd.sat] at h
      · rename_i hne
        obtain ⟨T0, nd, R', hs, hg, hn, h1⟩ := rdn_sat h
        have hr0 := refFree_get p T0 nd hg (hI.own s k T0 hs).1
        obtain ⟨s0, hc⟩ := hv.ref_cells
        obtain ⟨b, cap, cur, e1, e2, e3, e4⟩ := hI.ref_eq hs hg hn hc
        simp at e1
        obtain ⟨κ', hI', hkeep⟩ := hI.moveNode hs hg hn (d := d) (fun e => hne e.symm) nd [] [u] hr0 (fun b' cap' X' f1 f2 f3 f4 f5 => by
          have hb := hI.inj b' b s p _ _ f1 e4
          subst hb
          have : headOf nd b' cap' = headOf nd b' cap := by rw [f1] at e4; simpa using e4
          rw [this, ← e1] at f5
          exact f5)
        refine ⟨s, k, p, T0, nd, nd, R', hne, hs, hg, hn, hr0, by rw [isAgg_of_isNode hn]; rfl, by rw [size_of_isNode hn]; rfl, h1, κ', ?_, hkeep⟩
        have : mkv nd [u] = u := by cases nd <;> simp_all [T.isNode, mkv]
        rw [this] at hI'
        exact hI'
    case agg l =>
      cases hh : holeAt l with
      | none => simp [hh, Rd.sat] at h
      | some y =>
        obtain ⟨j, s, k, p⟩ := y
        simp only [hh] at h
        split at h
        · simp [Rd.sat] at h
        · rename_i hne
          split at h
          · rename_i hcond
            simp only [Bool.and_eq_true] at hcond
            obtain ⟨T0, nd, R', hs, hg, hn, h1⟩ := rdn_sat h
            have hr0 := refFree_get p T0 nd hg (hI.own s k T0 hs).1
            have hj := holeAt_get l j s k p hh
            obtain ⟨s0, cs, e1, e2⟩ := hv.cells
            simp only [CR] at e2
            have h2 := CRL_at l j 0 cs _ hj e2
            have hlen := CR_len _ _ _ _ _ h2
            simp only [T.size] at h2 hlen
            obtain ⟨b, cap, cur, f1, f2, f3, f4⟩ := hI.ref_eq hs hg hn h2
            have hrf : (T.agg (l.set j nd)).refFree = true := by simp only [T.refFree]; exact refFreeL_eraseIdx_set l j nd hcond.2 hr0
            obtain ⟨κ', hI', hkeep⟩ := hI.moveNode hs hg hn (d := d) (fun e => hne e.symm) (.agg (l.set j nd)) [j] cs hrf (fun b' cap' X' g1 g2 g3 g4 g5 => by
              have hb := hI.inj b' b s p _ _ g1 f4
              subst hb
              have hh' : headOf nd b' cap' = headOf nd b' cap := by rw [g1] at f4; simpa using f4
              rw [hh', ← f1] at g5
              simp only [CR]
              exact CRL_fill (X := cx C env w κ) g2 (fun b hb => ⟨by rw [g4]; exact hb, by rw [g3]; rfl⟩) rfl (size_of_isNode hn) l j 0 [] [] cs hj hcond.1 e2 (by simpa using g5))
            refine ⟨s, k, p, T0, nd, _, R', hne, hs, hg, hn, hrf, rfl, ?_, h1, κ', ?_, hkeep⟩
            · simp only [T.size]
              rw [← modify_eq_set l j (fun _ => nd) _ hj]
              exact size_modify hj (by rw [size_of_isNode hn]; rfl)
            · have : mkv (T.agg (l.set j nd)) cs = u := by rw [e1]; rfl
              rw [this] at hI'
              exact hI'
          · simp [Rd.sat] at h

end

mutual
theorem oneCell_of_solid {X : Cx} {s : Nat} : ∀ (t : T) (p : List Nat) (cs : List Value), t.solid = true → t.refFree = true → CR X s p t cs → ∀ v ∈ cs, v.oneCell' = true
  | .int .., _, _, _, _, h => by simp only [CR] at h; subst h; simp [Value.oneCell']
  | .bool .., _, _, _, _, h => by simp only [CR] at h; subst h; simp [Value.oneCell']
  | .str c, _, _, _, _, h => by simp only [CR] at h; subst h; cases c <;> simp [Value.oneCell', Con.val]
  | .any, _, _, hs, _, _ => by simp [T.solid] at hs
  | .nil, _, _, _, _, h => by simp only [CR] at h; subst h; simp [Value.oneCell']
  | .sl true .., _, _, _, _, h => by simp only [CR] at h; obtain ⟨_, _, _, rfl, _⟩ := h; simp [Value.oneCell']
  | .sl false .., _, _, _, _, h => by simp only [CR] at h; obtain ⟨_, _, rfl, _⟩ := h; simp [Value.oneCell']
  | .box .., _, _, _, _, h => by simp only [CR] at h; obtain ⟨_, _, rfl, _⟩ := h; simp [Value.oneCell']
  | .fptr .., _, _, _, _, h => by simp only [CR] at h; obtain ⟨_, _, _, _, _, rfl, _⟩ := h; simp [Value.oneCell']
  | .tup .., _, _, hs, _, _ => by simp [T.solid] at hs
  | .fn .., _, _, _, _, h => by simp only [CR] at h; obtain ⟨_, rfl, _⟩ := h; simp [Value.oneCell']
  | .ref .., _, _, _, hr, _ => by simp [T.refFree] at hr
  | .addr .., _, _, _, hr, _ => by simp [T.refFree] at hr
  | .agg l, p, cs, hs, hr, h => by
    simp only [CR] at h
    exact oneCellL_of_solid l p 0 cs (by simpa [T.solid] using hs) (by simpa [T.refFree] using hr) h
theorem oneCellL_of_solid {X : Cx} {s : Nat} : ∀ (l : List T) (p : List Nat) (i : Nat) (cs : List Value), T.solidL l = true → T.refFreeL l = true → CRL X s p i l cs → ∀ v ∈ cs, v.oneCell' = true
  | [], _, _, _, _, _, h => by simp only [CRL] at h; subst h; simp
  | t :: l, p, i, cs, hs, hr, h => by
    intro v hv
    simp only [T.solidL, Bool.and_eq_true] at hs
    simp only [T.refFreeL, Bool.and_eq_true] at hr
    simp only [CRL] at h
    rw [← List.take_append_drop t.size cs, List.mem_append] at hv
    rcases hv with hv | hv
    · exact oneCell_of_solid t _ _ hs.1 hr.1 h.1 v hv
    · exact oneCellL_of_solid l _ _ _ hs.2 hr.2 h.2 v hv
end

end Go.Proofs.Ytjkhggbjkkobaaa

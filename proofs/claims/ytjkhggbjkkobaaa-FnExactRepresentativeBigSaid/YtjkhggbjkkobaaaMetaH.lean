/-
  The generic part, eighth text: handles; taking a tree out of its place; storing into a block.
-/
import Derived.Test.YtjkhggbjkkobaaaMetaG
namespace Go.Proofs.Ytjkhggbjkkobaaa
open Go.RowKit

section
variable {C : Ctx} {env : Env} {V : Nat → Value} {w : World} {κ : Kap}

/-- What a slice's or a variable's handle is: the head of the very block. -/
theorem Inv.node_at (h : Inv C env V w κ) {s k : Nat} {T0 n : T} {q : List Nat} (hs : lk env s = some ⟨k, .own T0⟩) (hg : T.get q T0 = some n) (hn : n.isNode = true) :
    ∃ b cap cur, CR (cx C env w κ) s q n [headOf n b cap] ∧ w.heap[b]? = some (.cells cur n.elem (0, 0)) ∧ κ b = some (s, q, headOf n b cap) := by
  obtain ⟨_, cs, _, hCR⟩ := h.own s k T0 hs
  obtain ⟨cs0, h0⟩ := CR_get q T0 [] cs n hg hCR
  simp only [List.nil_append] at h0
  obtain ⟨b, cap, cur, rfl, hb, hk, _⟩ := node_view hn h0
  exact ⟨b, cap, cur, h0, hb, hk⟩

theorem Inv.ref_eq (h : Inv C env V w κ) {s k : Nat} {T0 n : T} {q : List Nat} (hs : lk env s = some ⟨k, .own T0⟩) (hg : T.get q T0 = some n) (hn : n.isNode = true)
    {s0 : Nat} {p0 : List Nat} {cs : List Value} (hv : CR (cx C env w κ) s0 p0 (.ref s k q) cs) :
    ∃ b cap cur, cs = [headOf n b cap] ∧ CR (cx C env w κ) s q n cs ∧ w.heap[b]? = some (.cells cur n.elem (0, 0)) ∧ κ b = some (s, q, headOf n b cap) := by
  obtain ⟨b, cap, cur, h1, h2, h3⟩ := h.node_at hs hg hn
  simp only [CR] at hv
  obtain ⟨v, rfl, _, hb⟩ := hv
  obtain ⟨b', hb'⟩ := hb ⟨T0, n, hs, hg, hn⟩
  have e := h.inj b b' s q _ _ h3 hb'
  subst e
  have : v = headOf n b cap := by
    have h4 : κ b = some (s, q, v) := hb'
    rw [h3] at h4
    simp at h4
    exact h4.symm
  subst this
  exact ⟨b, cap, cur, rfl, h1, h2, h3⟩

theorem Inv.addr_eq (h : Inv C env V w κ) {s k : Nat} {T0 n : T} {q : List Nat} (hs : lk env s = some ⟨k, .own T0⟩) (hg : T.get q T0 = some n) (hn : n.isNode = true)
    {s0 : Nat} {p0 : List Nat} {cs : List Value} {off : Nat} {sub : List Nat} (hv : CR (cx C env w κ) s0 p0 (.addr s k q off sub) cs) :
    ∃ b cap cur, cs = [.pointer (some ⟨b, off, none⟩)] ∧ CR (cx C env w κ) s q n [headOf n b cap] ∧ w.heap[b]? = some (.cells cur n.elem (0, 0)) ∧ κ b = some (s, q, headOf n b cap) := by
  obtain ⟨b, cap, cur, h1, h2, h3⟩ := h.node_at hs hg hn
  simp only [CR] at hv
  obtain ⟨v, rfl, _, hb⟩ := hv
  obtain ⟨b', hd, hb', rfl⟩ := hb ⟨T0, n, hs, hg, hn⟩
  have e := h.inj b b' s q _ _ h3 hb'
  subst e
  exact ⟨b, cap, cur, rfl, h1, h2, h3⟩

theorem leaf_no_node {t : T} (h : t.isNode = false) (h2 : ∀ i r, T.get (i :: r) t = none) : ∀ r n, T.get r t = some n → n.isNode = false := by
  intro r n hr
  cases r with
  | nil => simp [T.get] at hr; subst hr; exact h
  | cons i r => rw [h2] at hr; cases hr

def T.scalar : T → Bool
  | .int .. => true
  | .bool .. => true
  | .str .. => true
  | _ => false

theorem scalar_no_node {t : T} (h : t.scalar = true) : ∀ r n, T.get r t = some n → n.isNode = false := by
  refine leaf_no_node ?_ ?_ <;> cases t <;> simp_all [T.scalar, T.isNode, T.get]

/-- ████ A tree is taken out of its place: the place holds nothing that can be used. -/
theorem Inv.takeOut (h : Inv C env V w κ) {s k : Nat} {T0 n : T} {q : List Nat} (hs : lk env s = some ⟨k, .own T0⟩) (hg : T.get q T0 = some n) (hn : n.isNode = true) :
    Inv C ((s, ⟨k, .own (T.set .any q T0)⟩) :: env) V w (recol κ s q [] (fun _ => none)) := by
  have hA : n.isAgg = false := by cases n <;> simp_all [T.isNode, T.isAgg]
  have hS : n.size = 1 := by cases n <;> simp_all [T.isNode, T.size]
  have := h.put s k k T0 n .any q [] (fun _ => none) w hs (by simp) hg (by rw [hA]; rfl) rfl rfl rfl rfl (Nat.le_refl _) (fun _ _ => rfl) (fun _ _ _ _ _ _ _ => rfl)
    (fun _ _ _ h => by cases h) (fun _ _ _ h => by cases h) (fun _ _ _ _ _ h => by cases h)
    (.inr ⟨rfl, leaf_no_node rfl (fun _ _ => rfl)⟩) (fun cs X' h1 h2 h3 h4 h5 hCR => by
      obtain ⟨cs0, h6, h7⟩ := CR_focus (X' := X') q T0 [] cs n .any hg hCR (by rw [hS]; rfl) (by rw [hA]; rfl)
        ⟨h1, fun b hb => ⟨by rw [h3]; exact hb, by rw [h2]; rfl⟩, fun b r v hk hnp => by
          rw [h4, h2]
          simp only [List.nil_append] at hk ⊢
          exact ⟨recol_old (fun _ _ _ h => by cases h) hk (by simp [hnp]), rfl⟩, h5⟩
      refine h7 ?_
      have := CR_len _ _ _ _ _ h6
      rw [hS] at this
      match cs0, this with
      | [v], _ => simp only [CR]; exact ⟨v, rfl⟩)
  simpa [kill] using this

/-- A tree into a block's part: from slot d. -/
theorem Inv.storeOwn (h : Inv C env V w κ) {s k d kd : Nat} {T0 n t0 T1 : T} {p sub : List Nat} (hs : lk env s = some ⟨k, .own T0⟩) (hg : T.get p T0 = some n) (hn : n.isNode = true) (hp : n.part sub = some t0)
    (hd : lk env d = some ⟨kd, .own T1⟩) (hne : s ≠ d) (hsz : T1.size = t0.size) (hag : T1.isAgg = t0.isAgg) :
    ∃ b cap cur cs1, κ b = some (s, p, headOf n b cap) ∧ w.heap[b]? = some (.cells cur n.elem (0, 0)) ∧ n.offN sub + cs1.length ≤ cur.size ∧ V d = mkv T1 cs1 ∧ CR (cx C env w κ) d [] T1 cs1 ∧
      ∃ κ', Inv C ((s, ⟨k + 1, .own (T.set T1 (p ++ sub) T0)⟩) :: kill [d] env) V (w.setRow b (splice cur.toList (n.offN sub) cs1).toArray) κ' := by
  obtain ⟨b, cap, cur, h1, h2, h3⟩ := h.node_at hs hg hn
  obtain ⟨hr1, cs1, hV, hC1⟩ := h.own d kd T1 hd
  obtain ⟨b', cap', cur', e1, e2, e3, hle, _, _⟩ := node_part (X' := cx C env w κ) hn hp h1
  have hl1 := CR_len _ _ _ _ _ hC1
  have hb : b' = b := h.inj b' b s p _ _ e3 h3
  subst hb
  have hcur : cur' = cur := by
    have : w.heap[b']? = some (.cells cur' n.elem (0, 0)) := e2
    rw [h2] at this; simp at this; exact this.symm
  subst hcur
  refine ⟨b', cap, cur', cs1, h3, h2, by omega, hV, hC1, recol κ s (p ++ sub) [d] (fun b => match κ b with | some (u, r, v) => if u = d then some (r, v) else none | none => none), ?_⟩
  have hget : T.get (p ++ sub) T0 = some t0 := by rw [get_append p sub T0 n hg]; exact part_get hn hp
  have hFb : ¬ C.F b' := (h.col b' _ _ _ h3).2
  have hsubne : sub ≠ [] := by intro e; subst e; simp [T.part] at hp
  refine h.put s k (k + 1) T0 t0 T1 (p ++ sub) [d] (fun b => match κ b with | some (u, r, v) => if u = d then some (r, v) else none | none => none) _ hs (by simp [hne]) hget hag hr1
    rfl rfl rfl (by simp) (fun b hb => setRow_other _ _ _ _ (fun e => hFb (e ▸ hb))) (fun b u r v hk hu hus => setRow_other _ _ _ _ (fun e => by subst e; rw [h3] at hk; simp at hk; exact hus hk.1.symm))
    (fun b r v ho => ?_) (fun b r v ho u r' v' hk => ?_) (fun b1 b2 r v v' ho ho' => ?_) (.inl rfl) (fun cs X' g1 g2 g3 g4 g5 hCR => ?_)
  · cases hk : κ b with
    | none => simp [hk] at ho
    | some y =>
      obtain ⟨u, r', v'⟩ := y
      exact ⟨by simpa using (h.col b _ _ _ hk).1, (h.col b _ _ _ hk).2⟩
  · simp only [hk] at ho
    split at ho
    · rename_i e; exact .inr (by simp [e])
    · cases ho
  · cases hk : κ b1 with
    | none => simp [hk] at ho
    | some y =>
      obtain ⟨u, r1, v1⟩ := y
      cases hk' : κ b2 with
      | none => simp [hk'] at ho'
      | some y' =>
        obtain ⟨u', r2, v2⟩ := y'
        simp only [hk] at ho
        simp only [hk'] at ho'
        split at ho
        · split at ho'
          · rename_i e e'
            simp at ho ho'
            obtain ⟨rfl, rfl⟩ := ho
            obtain ⟨rfl, rfl⟩ := ho'
            subst e; subst e'
            exact h.inj b1 b2 _ _ _ _ hk hk'
          · cases ho'
        · cases ho
  · -- the root
    have hcol2 : ∀ b r v, (match κ b with | some (u, r, v) => if u = d then some (r, v) else none | none => none) = some (r, v) → ∀ u r v, κ b = some (u, r, v) → (u = s ∧ (p ++ sub) <+: r) ∨ u ∈ [d] := by
      intro b r v ho u r' v' hk
      simp only [hk] at ho
      split at ho
      · rename_i e; exact .inr (by simp [e])
      · cases ho
    have keep : ∀ b r v, κ b = some (s, r, v) → ¬ (p ++ sub) <+: r → X'.kap b = some (s, r, v) := by
      intro b r v hk hnp
      rw [g4]
      exact recol_old hcol2 hk (by simp [hnp, hne])
    have hfr : ∀ b, C.F b → X'.F b ∧ X'.w.heap[b]? = w.heap[b]? := fun b hb => ⟨by rw [g3]; exact hb, by rw [g2]; exact setRow_other _ _ _ _ (fun e => hFb (e ▸ hb))⟩
    rw [set_append T1 p sub T0 n hg]
    have hsz' : (T.set T1 sub n).size = n.size := T.size_set T1 sub n t0 (part_get hn hp) hsz
    have hag' : (T.set T1 sub n).isAgg = n.isAgg := T.isAgg_set T1 sub n t0 (part_get hn hp) hag
    have other : ∀ b r v, b ≠ b' → κ b = some (s, r, v) → ¬ (p ++ sub) <+: r → X'.kap b = some (s, r, v) ∧ X'.w.heap[b]? = w.heap[b]? :=
      fun b r v hb hk hnp => ⟨keep b r v hk hnp, by rw [g2]; exact setRow_other _ _ _ _ hb⟩
    obtain ⟨cs0, g6, g7⟩ := CR_focus (X' := X') p T0 [] cs n (T.set T1 sub n) hg hCR hsz' hag'
      ⟨g1, hfr, fun b r v hk hnp => by
        simp only [List.nil_append] at hk ⊢
        refine other b r v (fun e => ?_) hk (fun hp' => hnp ((List.prefix_append p sub).trans hp'))
        subst e
        rw [show (cx C env w κ).kap b = κ b from rfl, h3] at hk
        simp at hk
        exact hnp (by rw [hk.1]; exact List.prefix_refl r), g5⟩
    refine g7 ?_
    simp only [List.nil_append] at g6 ⊢
    obtain ⟨b2, cap2, cur2, e4, e5, e6, _, _, hput⟩ := node_part (X' := X') hn hp g6
    have hb2 : b2 = b' := h.inj b2 b' s p _ _ e6 h3
    subst hb2
    have hcur2 : cur2 = cur' := by
      have : w.heap[b2]? = some (.cells cur2 n.elem (0, 0)) := e5
      rw [h2] at this; simp at this; exact this.symm
    subst hcur2
    refine hput T1 cs1 hsz (by omega) g1 hfr (fun b r v hb hk hnp => other b _ v hb hk (fun hp' => hnp (by rwa [List.prefix_append_right_inj] at hp'))) g5 ?_ ?_ ?_
    · rw [g2]; exact setRow_heap _ _ _ _ _ _ h2
    · rw [show (cx C env w κ).kap b2 = κ b2 from rfl, h3, keep b2 p _ h3 (fun hp' => by have := hp'.length_le; rw [List.length_append] at this; exact hsubne (List.eq_nil_of_length_eq_zero (by omega)))]
    · refine CR_carry (cx C env w κ) X' d s T1 [] (p ++ sub) cs1 ⟨g1, hfr, fun b r v hk => ?_, g5⟩ hC1
      have hk' : κ b = some (d, r, v) := hk
      refine ⟨by rw [g4]; exact recol_new (by simp [hk']), ?_⟩
      rw [g2]
      refine setRow_other _ _ _ _ (fun e => ?_)
      subst e
      rw [h3] at hk'; simp at hk'
      exact hne hk'.1

/-- Data (no handles, no blocks of its own) into a block's part. -/
theorem Inv.storeVal (h : Inv C env V w κ) {s k k' : Nat} {T0 n t0 T1 : T} {p sub : List Nat} (hs : lk env s = some ⟨k, .own T0⟩) (hg : T.get p T0 = some n) (hn : n.isNode = true) (hp : n.part sub = some t0)
    {cs1 : List Value} {s1 : Nat} (hv : CR (cx C env w κ) s1 [] T1 cs1) (hpure : T1.pure = true) (hr1 : T1.refFree = true) (hsz : T1.size = t0.size) (hag : T1.isAgg = t0.isAgg)
    (hk : k' = k + 1 ∨ (k' = k ∧ T1.scalar = true)) :
    ∃ b cap cur, κ b = some (s, p, headOf n b cap) ∧ w.heap[b]? = some (.cells cur n.elem (0, 0)) ∧ n.offN sub + cs1.length ≤ cur.size ∧
      ∃ κ', Inv C ((s, ⟨k', .own (T.set T1 (p ++ sub) T0)⟩) :: env) V (w.setRow b (splice cur.toList (n.offN sub) cs1).toArray) κ' := by
  obtain ⟨b, cap, cur, h1, h2, h3⟩ := h.node_at hs hg hn
  obtain ⟨b', cap', cur', e1, e2, e3, hle, _, _⟩ := node_part (X' := cx C env w κ) hn hp h1
  have hl1 := CR_len _ _ _ _ _ hv
  have hb : b' = b := h.inj b' b s p _ _ e3 h3
  subst hb
  have hcur : cur' = cur := by
    have : w.heap[b']? = some (.cells cur' n.elem (0, 0)) := e2
    rw [h2] at this; simp at this; exact this.symm
  subst hcur
  refine ⟨b', cap, cur', h3, h2, by omega, recol κ s (p ++ sub) [] (fun _ => none), ?_⟩
  have hget : T.get (p ++ sub) T0 = some t0 := by rw [get_append p sub T0 n hg]; exact part_get hn hp
  have hFb : ¬ C.F b' := (h.col b' _ _ _ h3).2
  have hsubne : sub ≠ [] := by intro e; subst e; simp [T.part] at hp
  have key := h.put s k k' T0 t0 T1 (p ++ sub) [] (fun _ => none) (w.setRow b' (splice cur'.toList (n.offN sub) cs1).toArray) hs (by simp) hget hag hr1
    rfl rfl rfl (by simp) (fun b hb => setRow_other _ _ _ _ (fun e => hFb (e ▸ hb))) (fun b u r v hk hu hus => setRow_other _ _ _ _ (fun e => by subst e; rw [h3] at hk; simp at hk; exact hus hk.1.symm))
    (fun _ _ _ h => by cases h) (fun _ _ _ h => by cases h) (fun _ _ _ _ _ h => by cases h)
    (hk.imp id (fun ⟨e, hsc⟩ => ⟨e, scalar_no_node hsc⟩)) (fun cs X' g1 g2 g3 g4 g5 hCR => ?_)
  · simpa [kill] using key
  · have keep : ∀ b r v, κ b = some (s, r, v) → ¬ (p ++ sub) <+: r → X'.kap b = some (s, r, v) := by
      intro b r v hk hnp
      rw [g4]
      exact recol_old (fun _ _ _ h => by cases h) hk (by simp [hnp])
    have hfr : ∀ b, C.F b → X'.F b ∧ X'.w.heap[b]? = w.heap[b]? := fun b hb => ⟨by rw [g3]; exact hb, by rw [g2]; exact setRow_other _ _ _ _ (fun e => hFb (e ▸ hb))⟩
    rw [set_append T1 p sub T0 n hg]
    have hsz' : (T.set T1 sub n).size = n.size := T.size_set T1 sub n t0 (part_get hn hp) hsz
    have hag' : (T.set T1 sub n).isAgg = n.isAgg := T.isAgg_set T1 sub n t0 (part_get hn hp) hag
    have other : ∀ b r v, b ≠ b' → κ b = some (s, r, v) → ¬ (p ++ sub) <+: r → X'.kap b = some (s, r, v) ∧ X'.w.heap[b]? = w.heap[b]? :=
      fun b r v hb hk hnp => ⟨keep b r v hk hnp, by rw [g2]; exact setRow_other _ _ _ _ hb⟩
    obtain ⟨cs0, g6, g7⟩ := CR_focus (X' := X') p T0 [] cs n (T.set T1 sub n) hg hCR hsz' hag'
      ⟨g1, hfr, fun b r v hk hnp => by
        simp only [List.nil_append] at hk ⊢
        refine other b r v (fun e => ?_) hk (fun hp' => hnp ((List.prefix_append p sub).trans hp'))
        subst e
        rw [show (cx C env w κ).kap b = κ b from rfl, h3] at hk
        simp at hk
        exact hnp (by rw [hk.1]; exact List.prefix_refl r), g5⟩
    refine g7 ?_
    simp only [List.nil_append] at g6 ⊢
    obtain ⟨b2, cap2, cur2, e4, e5, e6, _, _, hput⟩ := node_part (X' := X') hn hp g6
    have hb2 : b2 = b' := h.inj b2 b' s p _ _ e6 h3
    subst hb2
    have hcur2 : cur2 = cur' := by
      have : w.heap[b2]? = some (.cells cur2 n.elem (0, 0)) := e5
      rw [h2] at this; simp at this; exact this.symm
    subst hcur2
    refine hput T1 cs1 hsz (by omega) g1 hfr (fun b r v hb hk hnp => other b _ v hb hk (fun hp' => hnp (by rwa [List.prefix_append_right_inj] at hp'))) g5 ?_ ?_ ?_
    · rw [g2]; exact setRow_heap _ _ _ _ _ _ h2
    · rw [show (cx C env w κ).kap b2 = κ b2 from rfl, h3, keep b2 p _ h3 (fun hp' => by have := hp'.length_le; rw [List.length_append] at this; exact hsubne (List.eq_nil_of_length_eq_zero (by omega)))]
    · exact CR_pure (cx C env w κ) X' s1 s g1 hfr T1 [] (p ++ sub) cs1 hpure hv

end

end Go.Proofs.Ytjkhggbjkkobaaa

/-
  The generic part, seventh text: a slot's tree turns at one place.
-/
import Derived.Test.YtjkhggbjkkobaaaMetaF
namespace Go.Proofs.Ytjkhggbjkkobaaa
open Go.RowKit

theorem refFreeL_iff (l : List T) : T.refFreeL l = true ↔ ∀ t ∈ l, t.refFree = true := by
  induction l with
  | nil => simp [T.refFreeL]
  | cons x l ih => simp [T.refFreeL, ih]

theorem noOwnL_iff (l : List T) : T.noOwnL l = true ↔ ∀ t ∈ l, t.noOwn = true := by
  induction l with
  | nil => simp [T.noOwnL]
  | cons x l ih => simp [T.noOwnL, ih]

theorem pureL_iff (l : List T) : T.pureL l = true ↔ ∀ t ∈ l, t.pure = true := by
  induction l with
  | nil => simp [T.pureL]
  | cons x l ih => simp [T.pureL, ih]

theorem refFreeL_set (l : List T) (i : Nat) (u : T) (h : T.refFreeL l = true) (hu : u.refFree = true) : T.refFreeL (l.set i u) = true := by
  rw [refFreeL_iff] at h ⊢
  intro t ht
  rcases List.mem_or_eq_of_mem_set ht with ht | rfl
  · exact h t ht
  · exact hu

theorem refFree_set (u : T) (hu : u.refFree = true) : ∀ (P : List Nat) (t t0 : T), T.get P t = some t0 → t.refFree = true → (T.set u P t).refFree = true
  | [], t, t0, _, h => by simpa [T.set] using hu
  | i :: P, t, t0, hg, h => by
    cases t with
    | agg l =>
      simp only [T.get] at hg
      cases hl : l[i]? with
      | none => simp [hl] at hg
      | some x =>
        simp [hl] at hg
        simp only [T.set, T.refFree, modify_eq_set l i _ x hl] at h ⊢
        exact refFreeL_set l i _ h (refFree_set u hu P x t0 hg ((refFreeL_iff l).1 h x (List.mem_of_getElem? hl)))
    | tup l =>
      simp only [T.get] at hg
      cases hl : l[i]? with
      | none => simp [hl] at hg
      | some x =>
        simp [hl] at hg
        simp only [T.set, T.refFree, modify_eq_set l i _ x hl] at h ⊢
        exact refFreeL_set l i _ h (refFree_set u hu P x t0 hg ((refFreeL_iff l).1 h x (List.mem_of_getElem? hl)))
    | sl o e l =>
      cases o with
      | false => simp [T.get] at hg
      | true =>
        simp only [T.get] at hg
        cases hl : l[i]? with
        | none => simp [hl] at hg
        | some x =>
          simp [hl] at hg
          simp only [T.set, T.refFree, modify_eq_set l i _ x hl] at h ⊢
          exact refFreeL_set l i _ h (refFree_set u hu P x t0 hg ((refFreeL_iff l).1 h x (List.mem_of_getElem? hl)))
    | box e t =>
      cases i with
      | zero =>
        simp only [T.get] at hg
        simp only [T.set, T.refFree] at h ⊢
        exact refFree_set u hu P t t0 hg h
      | succ i => simp [T.get] at hg
    | _ => simp [T.get] at hg

/-- Blocks of a tree with something new at a place: elder ones, or the new thing's. -/
theorem nodes_set (u : T) : ∀ (P : List Nat) (t t0 : T), T.get P t = some t0 → ∀ q n, T.get q (T.set u P t) = some n → n.isNode = true →
    (∃ r, q = P ++ r ∧ T.get r u = some n) ∨ (¬ P <+: q ∧ ∃ n0, T.get q t = some n0 ∧ n0.isNode = true)
  | [], t, t0, _, q, n, h, hn => by
    simp only [T.set] at h
    exact .inl ⟨q, rfl, h⟩
  | i :: P, t, t0, hg, q, n, h, hn => by
    have step : ∀ (l : List T) (x : T), l[i]? = some x → T.get P x = some t0 → ∀ (j : Nat) (q' : List Nat), q = j :: q' → ((l.modify i (T.set u P))[j]?).bind (T.get q') = some n →
        (∃ r, q = (i :: P) ++ r ∧ T.get r u = some n) ∨ (¬ (i :: P) <+: q ∧ ∃ n0, (l[j]?).bind (T.get q') = some n0 ∧ n0.isNode = true) := by
      intro l x hl hx j q' hq hm
      subst hq
      by_cases e : i = j
      · subst e
        rw [List.getElem?_modify] at hm
        simp [hl] at hm
        rcases nodes_set u P x t0 hx q' n hm hn with ⟨r, rfl, hr⟩ | ⟨h1, n0, h2, h3⟩
        · exact .inl ⟨r, rfl, hr⟩
        · refine .inr ⟨?_, n0, by simp [hl, h2], h3⟩
          simpa [List.cons_prefix_cons] using h1
      · rw [List.getElem?_modify] at hm
        simp [e] at hm
        refine .inr ⟨?_, n, by simpa using hm, hn⟩
        simp [List.cons_prefix_cons, e]
    cases t with
    | agg l =>
      simp only [T.get] at hg
      cases hl : l[i]? with
      | none => simp [hl] at hg
      | some x =>
        simp [hl] at hg
        cases q with
        | nil => simp [T.set, T.get] at h; subst h; simp [T.isNode] at hn
        | cons j q' =>
          simp only [T.set, T.get] at h ⊢
          exact step l x hl hg j q' rfl h
    | tup l =>
      simp only [T.get] at hg
      cases hl : l[i]? with
      | none => simp [hl] at hg
      | some x =>
        simp [hl] at hg
        cases q with
        | nil => simp [T.set, T.get] at h; subst h; simp [T.isNode] at hn
        | cons j q' =>
          simp only [T.set, T.get] at h ⊢
          exact step l x hl hg j q' rfl h
    | sl o e l =>
      cases o with
      | false => simp [T.get] at hg
      | true =>
        simp only [T.get] at hg
        cases hl : l[i]? with
        | none => simp [hl] at hg
        | some x =>
          simp [hl] at hg
          cases q with
          | nil => exact .inr ⟨by simp, _, rfl, rfl⟩
          | cons j q' =>
            simp only [T.set, T.get] at h ⊢
            exact step l x hl hg j q' rfl h
    | box e t =>
      cases i with
      | succ i => simp [T.get] at hg
      | zero =>
        simp only [T.get] at hg
        cases q with
        | nil => exact .inr ⟨by simp, _, rfl, rfl⟩
        | cons j q' =>
          cases j with
          | succ j => simp [T.set, T.get] at h
          | zero =>
            simp only [T.set, T.get] at h ⊢
            rcases nodes_set u P t t0 hg q' n h hn with ⟨r, rfl, hr⟩ | ⟨h1, n0, h2, h3⟩
            · exact .inl ⟨r, rfl, hr⟩
            · exact .inr ⟨by simpa [List.cons_prefix_cons] using h1, n0, h2, h3⟩
    | _ => simp [T.get] at hg

/-- The colours behind a change at the place P of slot s. -/
def recol (κ : Kap) (s : Nat) (P : List Nat) (srcs : List Nat) (κo : Nat → Option (List Nat × Value)) : Kap := fun b =>
  match κo b with
  | some (r, v) => some (s, P ++ r, v)
  | none => match κ b with
    | some (u, r, v) => if (u = s ∧ P <+: r) ∨ u ∈ srcs then none else some (u, r, v)
    | none => none

theorem recol_new {κ : Kap} {s : Nat} {P : List Nat} {srcs : List Nat} {κo : Nat → Option (List Nat × Value)} {b : Nat} {r : List Nat} {v : Value} (h : κo b = some (r, v)) : recol κ s P srcs κo b = some (s, P ++ r, v) := by
  simp [recol, h]

theorem recol_old {κ : Kap} {s : Nat} {P : List Nat} {srcs : List Nat} {κo : Nat → Option (List Nat × Value)} {b u : Nat} {r : List Nat} {v : Value}
    (hcol : ∀ b r v, κo b = some (r, v) → ∀ u r v, κ b = some (u, r, v) → (u = s ∧ P <+: r) ∨ u ∈ srcs)
    (h : κ b = some (u, r, v)) (hn : ¬ ((u = s ∧ P <+: r) ∨ u ∈ srcs)) : recol κ s P srcs κo b = some (u, r, v) := by
  unfold recol
  cases ho : κo b with
  | some y => obtain ⟨r', v'⟩ := y; exact absurd (hcol b r' v' ho u r v h) hn
  | none => simp [h, hn]

theorem recol_inv {κ : Kap} {s : Nat} {P : List Nat} {srcs : List Nat} {κo : Nat → Option (List Nat × Value)} {b u : Nat} {r : List Nat} {v : Value} (h : recol κ s P srcs κo b = some (u, r, v)) :
    (u = s ∧ ∃ r', r = P ++ r' ∧ κo b = some (r', v)) ∨ (¬ ((u = s ∧ P <+: r) ∨ u ∈ srcs) ∧ κ b = some (u, r, v) ∧ κo b = none) := by
  unfold recol at h
  cases ho : κo b with
  | some y =>
    obtain ⟨r', v'⟩ := y
    simp only [ho, Option.some.injEq, Prod.mk.injEq] at h
    obtain ⟨rfl, rfl, rfl⟩ := h
    exact .inl ⟨rfl, r', rfl, rfl⟩
  | none =>
    cases hk : κ b with
    | none => simp [ho, hk] at h
    | some y =>
      obtain ⟨u', r', v'⟩ := y
      simp only [ho, hk] at h
      split at h
      · cases h
      · rename_i hn
        simp only [Option.some.injEq, Prod.mk.injEq] at h
        obtain ⟨rfl, rfl, rfl⟩ := h
        exact .inr ⟨hn, rfl, rfl⟩

/-- ████ A slot's tree turns at the place P; the slots 'srcs' give theirs up. -/
theorem Inv.put {C : Ctx} {env : Env} {V : Nat → Value} {w : World} {κ : Kap} (h : Inv C env V w κ) (s k k' : Nat) (T0 t0 t1 : T) (P : List Nat) (srcs : List Nat) (κo : Nat → Option (List Nat × Value)) (w' : World)
    (hs : lk env s = some ⟨k, .own T0⟩) (hsrc : s ∉ srcs) (hg : T.get P T0 = some t0) (hag : t1.isAgg = t0.isAgg) (hr1 : t1.refFree = true)
    (hos : w'.os = w.os) (htape : w'.tape = w.tape) (hout : w'.output = w.output) (hsize : w.heap.size ≤ w'.heap.size)
    (hfrozen : ∀ b, C.F b → w'.heap[b]? = w.heap[b]?) (hkept : ∀ b u p v, κ b = some (u, p, v) → u ∉ srcs → u ≠ s → w'.heap[b]? = w.heap[b]?)
    (hcol : ∀ b r v, κo b = some (r, v) → b < w'.heap.size ∧ ¬ C.F b)
    (hcol2 : ∀ b r v, κo b = some (r, v) → ∀ u r v, κ b = some (u, r, v) → (u = s ∧ P <+: r) ∨ u ∈ srcs)
    (hinj : ∀ b b' p v v', κo b = some (p, v) → κo b' = some (p, v') → b = b')
    (hk : k' = k + 1 ∨ (k' = k ∧ ∀ r n, T.get r t1 = some n → n.isNode = false))
    (hroot : ∀ (cs : List Value) (X' : Cx), X'.sz = C.P.cellsOf → X'.w = w' → X'.F = C.F → X'.kap = recol κ s P srcs κo → Refs (cx C env w κ) X' → CR (cx C env w κ) s [] T0 cs → CR X' s [] (T.set t1 P T0) cs) :
    Inv C ((s, ⟨k', .own (T.set t1 P T0)⟩) :: kill srcs env) V w' (recol κ s P srcs κo) := by
  have hver : verOf (lk env s) = k := by rw [hs]; rfl
  have hrefs : Refs (cx C env w κ) (cx C ((s, ⟨k', .own (T.set t1 P T0)⟩) :: kill srcs env) w' (recol κ s P srcs κo)) := by
    intro u j q ho
    obtain ⟨y, hy, hj⟩ := ho
    by_cases e : u = s
    · subst e
      rw [hs] at hy
      simp at hy; subst hy
      refine ⟨⟨_, lk_same _ _ _, by show j ≤ k'; have : j ≤ k := hj; rcases hk with e | ⟨e, _⟩ <;> omega⟩, fun hn => ?_⟩
      obtain ⟨T2, n, h1, h2, h3⟩ := hn
      rw [lk_same] at h1
      simp only [Option.some.injEq, Slot.mk.injEq, SV.own.injEq] at h1
      obtain ⟨rfl, rfl⟩ := h1
      rcases hk with e | ⟨e, hnn⟩
      · have : k' ≤ k := hj
        omega
      · subst e
        rcases nodes_set t1 P T0 t0 hg q n h2 h3 with ⟨r, rfl, hr⟩ | ⟨h4, n0, h5, h6⟩
        · rw [hnn r n hr] at h3; cases h3
        · exact ⟨⟨T0, n0, hs, h5, h6⟩, fun b v hb => recol_old hcol2 hb (by simp [h4, hsrc])⟩
    · by_cases e2 : u ∈ srcs
      · refine ⟨⟨_, by rw [lk_other _ _ _ _ e]; exact lk_kill_mem _ _ _ e2, by rw [hy]; exact hj⟩, fun hn => ?_⟩
        obtain ⟨T2, n, h1, _⟩ := hn
        rw [lk_other _ _ _ _ e, lk_kill_mem _ _ _ e2] at h1
        simp at h1
      · refine ⟨⟨y, by rw [lk_other _ _ _ _ e, lk_kill_not _ _ _ e2]; exact hy, hj⟩, fun hn => ?_⟩
        obtain ⟨T2, n, h1, h2⟩ := hn
        rw [lk_other _ _ _ _ e, lk_kill_not _ _ _ e2] at h1
        exact ⟨⟨T2, n, h1, h2⟩, fun b v hb => recol_old hcol2 hb (by simp [e, e2])⟩
  have hc : ∀ t, t ≠ s → t ∉ srcs → Carry (cx C env w κ) (cx C ((s, ⟨k', .own (T.set t1 P T0)⟩) :: kill srcs env) w' (recol κ s P srcs κo)) t t [] [] := fun t h1 h2 =>
    ⟨rfl, fun b hb => ⟨hb, hfrozen b hb⟩, fun b q v hb => ⟨recol_old hcol2 hb (by simp [h1, h2]), hkept b t _ v hb h2 h1⟩, hrefs⟩
  refine ⟨hos.trans h.os, htape.trans h.tape, hout.trans h.output, Nat.le_trans h.size hsize, fun b hb => (hfrozen b hb).trans (h.frozen b hb), ?_, ?_, fun t k'' y hy => ?_, fun t k'' y hy => ?_, fun t k'' hy => ?_⟩
  · intro b u p v hm
    rcases recol_inv hm with ⟨_, r', _, ho⟩ | ⟨_, hb, _⟩
    · exact hcol b r' v ho
    · exact ⟨Nat.lt_of_lt_of_le (h.col b u p v hb).1 hsize, (h.col b u p v hb).2⟩
  · intro b b' u p v v' hm hm'
    rcases recol_inv hm with ⟨e, r, rfl, ho⟩ | ⟨hn, hb, _⟩
    · rcases recol_inv hm' with ⟨_, r', e', ho'⟩ | ⟨hn', _⟩
      · have : r = r' := List.append_cancel_left e'
        subst this
        exact hinj b b' r v v' ho ho'
      · exact absurd (.inl ⟨e, List.prefix_append P r⟩) hn'
    · rcases recol_inv hm' with ⟨e', r', rfl, _⟩ | ⟨_, hb', _⟩
      · exact absurd (.inl ⟨e', List.prefix_append P r'⟩) hn
      · exact h.inj b b' u p v v' hb hb'
  · by_cases e : t = s
    · subst e; rw [lk_same] at hy; simp at hy
    · rw [lk_other _ _ _ _ e] at hy
      by_cases e2 : t ∈ srcs
      · rw [lk_kill_mem _ _ _ e2] at hy
        simp at hy
        obtain ⟨_, rfl⟩ := hy
        exact ⟨rfl, VR_any _ _ _⟩
      · rw [lk_kill_not _ _ _ e2] at hy
        exact ⟨(h.val t k'' y hy).1, VR_carry (hc t e e2) (h.val t k'' y hy).2⟩
  · by_cases e : t = s
    · subst e
      rw [lk_same] at hy
      simp only [Option.some.injEq, Slot.mk.injEq, SV.own.injEq] at hy
      obtain ⟨_, rfl⟩ := hy
      obtain ⟨hr0, cs, hV, hCR⟩ := h.own t k T0 hs
      exact ⟨refFree_set t1 hr1 P T0 t0 hg hr0, cs, by rw [hV]; exact mkv_of_isAgg (T.isAgg_set t1 P T0 t0 hg hag).symm cs, hroot cs _ rfl rfl rfl rfl hrefs hCR⟩
    · rw [lk_other _ _ _ _ e] at hy
      by_cases e2 : t ∈ srcs
      · rw [lk_kill_mem _ _ _ e2] at hy
        simp at hy
      · rw [lk_kill_not _ _ _ e2] at hy
        exact ⟨(h.own t k'' y hy).1, VR_carry (hc t e e2) (h.own t k'' y hy).2⟩
  · by_cases e : t = s
    · subst e; rw [lk_same] at hy; simp at hy
    · rw [lk_other _ _ _ _ e] at hy
      by_cases e2 : t ∈ srcs
      · rw [lk_kill_mem _ _ _ e2] at hy
        simp at hy
      · rw [lk_kill_not _ _ _ e2] at hy
        exact h.und t k'' hy

end Go.Proofs.Ytjkhggbjkkobaaa

/-
  The generic part, second text: how the reading of a tree is carried from one state of things to another.
-/
import Derived.Test.YtjkhggbjkkobaaaMetaA
namespace Go.Proofs.Ytjkhggbjkkobaaa
open Go.RowKit

mutual
theorem CR_len (X : Cx) (s : Nat) : ∀ (t : T) (p : List Nat) (cs : List Value), CR X s p t cs → cs.length = t.size
  | .int .., _, _, h => by simp only [CR] at h; subst h; simp [T.size]
  | .bool .., _, _, h => by simp only [CR] at h; subst h; simp [T.size]
  | .str .., _, _, h => by simp only [CR] at h; subst h; simp [T.size]
  | .any, _, _, h => by simp only [CR] at h; obtain ⟨v, rfl⟩ := h; simp [T.size]
  | .nil, _, _, h => by simp only [CR] at h; subst h; simp [T.size]
  | .sl true .., _, _, h => by simp only [CR] at h; obtain ⟨_, _, _, rfl, _⟩ := h; simp [T.size]
  | .sl false .., _, _, h => by simp only [CR] at h; obtain ⟨_, _, rfl, _⟩ := h; simp [T.size]
  | .box .., _, _, h => by simp only [CR] at h; obtain ⟨_, _, rfl, _⟩ := h; simp [T.size]
  | .fptr .., _, _, h => by simp only [CR] at h; obtain ⟨_, _, _, _, _, rfl, _⟩ := h; simp [T.size]
  | .agg l, p, cs, h => by simp only [CR] at h; simpa [T.size] using CRL_len X s l p 0 cs h
  | .tup .., _, _, h => by simp only [CR] at h; obtain ⟨_, rfl, _⟩ := h; simp [T.size]
  | .fn .., _, _, h => by simp only [CR] at h; obtain ⟨_, rfl, _⟩ := h; simp [T.size]
  | .ref .., _, _, h => by simp only [CR] at h; obtain ⟨_, rfl, _⟩ := h; simp [T.size]
  | .addr .., _, _, h => by simp only [CR] at h; obtain ⟨_, rfl, _⟩ := h; simp [T.size]
theorem CRL_len (X : Cx) (s : Nat) : ∀ (l : List T) (p : List Nat) (i : Nat) (cs : List Value), CRL X s p i l cs → cs.length = T.sizeL l
  | [], _, _, _, h => by simp only [CRL] at h; subst h; simp [T.sizeL]
  | t :: l, p, i, cs, h => by
    simp only [CRL] at h
    have h1 := CR_len X s t _ _ h.1
    have h2 := CRL_len X s l _ _ _ h.2
    simp only [List.length_take, List.length_drop] at h1 h2
    simp only [T.sizeL]
    omega
end

/-- From the one state of things to the other: what the frozen blocks hold stays; what this place owns stays, under a place of its new name; handles that are good now were good before. -/
structure Carry (X X' : Cx) (s s' : Nat) (p p' : List Nat) : Prop where
  sz : X'.sz = X.sz
  frozen : ∀ b, X.F b → X'.F b ∧ X'.w.heap[b]? = X.w.heap[b]?
  own : ∀ b q v, X.kap b = some (s, p ++ q, v) → X'.kap b = some (s', p' ++ q, v) ∧ X'.w.heap[b]? = X.w.heap[b]?
  refs : ∀ u k q, X.old u k → X'.old u k ∧ (X'.node u k q → X.node u k q ∧ ∀ b v, X.kap b = some (u, q, v) → X'.kap b = some (u, q, v))

theorem Carry.sub {X X' : Cx} {s s' : Nat} {p p' : List Nat} (h : Carry X X' s s' p p') (r : List Nat) : Carry X X' s s' (p ++ r) (p' ++ r) :=
  ⟨h.sz, h.frozen, fun b q v hk => by
    rw [List.append_assoc] at hk ⊢
    exact h.own b (r ++ q) v hk, h.refs⟩

mutual
theorem CR_carry (X X' : Cx) (s s' : Nat) : ∀ (t : T) (p p' : List Nat) (cs : List Value), Carry X X' s s' p p' → CR X s p t cs → CR X' s' p' t cs
  | .int .., _, _, _, _, h => by simpa only [CR] using h
  | .bool .., _, _, _, _, h => by simpa only [CR] using h
  | .str .., _, _, _, _, h => by simpa only [CR] using h
  | .any, _, _, _, _, h => by simpa only [CR] using h
  | .nil, _, _, _, _, h => by simpa only [CR] using h
  | .sl true e l, p, p', cs, c, h => by
    simp only [CR] at h ⊢
    obtain ⟨b, cap, cur, hcs, hb, hk, h1, h2, h3, h4, h5⟩ := h
    have hk' := c.own b [] _ (by simpa using hk)
    simp only [List.append_nil] at hk'
    exact ⟨b, cap, cur, hcs, hk'.2.trans hb, hk'.1, h1, h2, by rw [c.sz]; exact h3, by rw [c.sz]; exact h4, by rw [c.sz]; exact CRL_carry X X' s s' l p p' 0 _ c h5⟩
  | .sl false e l, p, p', cs, c, h => by
    simp only [CR] at h ⊢
    obtain ⟨a, cap, hcs, h1, h2, h3, h4, h5⟩ := h
    refine ⟨a, cap, hcs, h1, h2, by rw [c.sz]; exact h3, h4, fun hl => ?_⟩
    obtain ⟨b, off, ha, hF, cur, e', fz, hb, h6, h7⟩ := h5 hl
    have hf := c.frozen b hF
    exact ⟨b, off, ha, hf.1, cur, e', fz, hf.2.trans hb, by rw [c.sz]; exact h6, by rw [c.sz]; exact CRL_carry X X' s s' l p p' 0 _ c h7⟩
  | .box e t, p, p', cs, c, h => by
    simp only [CR] at h ⊢
    obtain ⟨b, cur, hcs, hb, hk, h1, h2, h3⟩ := h
    have hk' := c.own b [] _ (by simpa using hk)
    simp only [List.append_nil] at hk'
    exact ⟨b, cur, hcs, hk'.2.trans hb, hk'.1, by rw [c.sz]; exact h1, h2, CR_carry X X' s s' t _ _ _ (c.sub [0]) h3⟩
  | .fptr t, p, p', cs, c, h => by
    simp only [CR] at h ⊢
    obtain ⟨b, off, cur, e, fz, hcs, hF, hb, h1, h2, h3⟩ := h
    have hf := c.frozen b hF
    exact ⟨b, off, cur, e, fz, hcs, hf.1, hf.2.trans hb, h1, h2, CR_carry X X' s s' t p p' _ c h3⟩
  | .agg l, p, p', cs, c, h => by
    simp only [CR] at h ⊢
    exact CRL_carry X X' s s' l p p' 0 _ c h
  | .tup l, p, p', cs, c, h => by
    simp only [CR] at h ⊢
    obtain ⟨vs, hcs, h1⟩ := h
    exact ⟨vs, hcs, CRT_carry X X' s s' l p p' 0 _ c h1⟩
  | .fn f l, p, p', cs, c, h => by
    simp only [CR] at h ⊢
    obtain ⟨vs, hcs, h1⟩ := h
    exact ⟨vs, hcs, CRT_carry X X' s s' l p p' 0 _ c h1⟩
  | .ref u k q, p, p', cs, c, h => by
    simp only [CR] at h ⊢
    obtain ⟨v, hcs, h1, h2⟩ := h
    have hr := c.refs u k q h1
    refine ⟨v, hcs, hr.1, fun hn => ?_⟩
    obtain ⟨b, hb⟩ := h2 (hr.2 hn).1
    exact ⟨b, (hr.2 hn).2 b v hb⟩
  | .addr u k q off sub, p, p', cs, c, h => by
    simp only [CR] at h ⊢
    obtain ⟨v, hcs, h1, h2⟩ := h
    have hr := c.refs u k q h1
    refine ⟨v, hcs, hr.1, fun hn => ?_⟩
    obtain ⟨b, hd, hb, hv⟩ := h2 (hr.2 hn).1
    exact ⟨b, hd, (hr.2 hn).2 b hd hb, hv⟩
theorem CRL_carry (X X' : Cx) (s s' : Nat) : ∀ (l : List T) (p p' : List Nat) (i : Nat) (cs : List Value), Carry X X' s s' p p' → CRL X s p i l cs → CRL X' s' p' i l cs
  | [], _, _, _, _, _, h => by simpa only [CRL] using h
  | t :: l, p, p', i, cs, c, h => by
    simp only [CRL] at h ⊢
    exact ⟨CR_carry X X' s s' t _ _ _ (c.sub [i]) h.1, CRL_carry X X' s s' l p p' (i + 1) _ c h.2⟩
theorem CRT_carry (X X' : Cx) (s s' : Nat) : ∀ (l : List T) (p p' : List Nat) (i : Nat) (vs : List Value), Carry X X' s s' p p' → CRT X s p i l vs → CRT X' s' p' i l vs
  | [], _, _, _, _, _, h => by simpa only [CRT] using h
  | t :: l, p, p', i, vs, c, h => by
    simp only [CRT] at h ⊢
    obtain ⟨⟨v, cs, h1, h2, h3⟩, h4⟩ := h
    exact ⟨⟨v, cs, h1, h2, CR_carry X X' s s' t _ _ _ (c.sub [i]) h3⟩, CRT_carry X X' s s' l p p' (i + 1) _ c h4⟩
end

mutual
/-- What owns nothing reads the same at whatever place: and needs only the frozen blocks and the handles. -/
theorem CR_noOwn (X X' : Cx) (s s' : Nat) (hsz : X'.sz = X.sz) (hF : ∀ b, X.F b → X'.F b ∧ X'.w.heap[b]? = X.w.heap[b]?)
    (hr : ∀ u k q, X.old u k → X'.old u k ∧ (X'.node u k q → X.node u k q ∧ ∀ b v, X.kap b = some (u, q, v) → X'.kap b = some (u, q, v))) :
    ∀ (t : T) (p p' : List Nat) (cs : List Value), t.noOwn = true → CR X s p t cs → CR X' s' p' t cs
  | .int .., _, _, _, _, h => by simpa only [CR] using h
  | .bool .., _, _, _, _, h => by simpa only [CR] using h
  | .str .., _, _, _, _, h => by simpa only [CR] using h
  | .any, _, _, _, _, h => by simpa only [CR] using h
  | .nil, _, _, _, _, h => by simpa only [CR] using h
  | .sl true e l, p, p', cs, c, h => by simp [T.noOwn] at c
  | .sl false e l, p, p', cs, c, h => by
    simp only [CR] at h ⊢
    obtain ⟨a, cap, hcs, h1, h2, h3, h4, h5⟩ := h
    refine ⟨a, cap, hcs, h1, h2, by rw [hsz]; exact h3, h4, fun hl => ?_⟩
    obtain ⟨b, off, ha, hFb, cur, e', fz, hb, h6, h7⟩ := h5 hl
    have hf := hF b hFb
    exact ⟨b, off, ha, hf.1, cur, e', fz, hf.2.trans hb, by rw [hsz]; exact h6, by rw [hsz]; exact CRL_pure X X' s s' hsz hF l p p' 0 _ h4 h7⟩
  | .box e t, p, p', cs, c, h => by simp [T.noOwn] at c
  | .fptr t, p, p', cs, c, h => by
    simp only [CR] at h ⊢
    obtain ⟨b, off, cur, e, fz, hcs, hFb, hb, h1, h2, h3⟩ := h
    have hf := hF b hFb
    exact ⟨b, off, cur, e, fz, hcs, hf.1, hf.2.trans hb, h1, h2, CR_pure X X' s s' hsz hF t p p' _ h2 h3⟩
  | .agg l, p, p', cs, c, h => by
    simp only [CR] at h ⊢
    exact CRL_noOwn X X' s s' hsz hF hr l p p' 0 _ (by simpa [T.noOwn] using c) h
  | .tup l, p, p', cs, c, h => by
    simp only [CR] at h ⊢
    obtain ⟨vs, hcs, h1⟩ := h
    exact ⟨vs, hcs, CRT_noOwn X X' s s' hsz hF hr l p p' 0 _ (by simpa [T.noOwn] using c) h1⟩
  | .fn f l, p, p', cs, c, h => by
    simp only [CR] at h ⊢
    obtain ⟨vs, hcs, h1⟩ := h
    exact ⟨vs, hcs, CRT_noOwn X X' s s' hsz hF hr l p p' 0 _ (by simpa [T.noOwn] using c) h1⟩
  | .ref u k q, p, p', cs, c, h => by
    simp only [CR] at h ⊢
    obtain ⟨v, hcs, h1, h2⟩ := h
    have hq := hr u k q h1
    refine ⟨v, hcs, hq.1, fun hn => ?_⟩
    obtain ⟨b, hb⟩ := h2 (hq.2 hn).1
    exact ⟨b, (hq.2 hn).2 b v hb⟩
  | .addr u k q off sub, p, p', cs, c, h => by
    simp only [CR] at h ⊢
    obtain ⟨v, hcs, h1, h2⟩ := h
    have hq := hr u k q h1
    refine ⟨v, hcs, hq.1, fun hn => ?_⟩
    obtain ⟨b, hd, hb, hv⟩ := h2 (hq.2 hn).1
    exact ⟨b, hd, (hq.2 hn).2 b hd hb, hv⟩
theorem CRL_noOwn (X X' : Cx) (s s' : Nat) (hsz : X'.sz = X.sz) (hF : ∀ b, X.F b → X'.F b ∧ X'.w.heap[b]? = X.w.heap[b]?)
    (hr : ∀ u k q, X.old u k → X'.old u k ∧ (X'.node u k q → X.node u k q ∧ ∀ b v, X.kap b = some (u, q, v) → X'.kap b = some (u, q, v))) :
    ∀ (l : List T) (p p' : List Nat) (i : Nat) (cs : List Value), T.noOwnL l = true → CRL X s p i l cs → CRL X' s' p' i l cs
  | [], _, _, _, _, _, h => by simpa only [CRL] using h
  | t :: l, p, p', i, cs, c, h => by
    simp only [CRL] at h ⊢
    simp only [T.noOwnL, Bool.and_eq_true] at c
    exact ⟨CR_noOwn X X' s s' hsz hF hr t _ _ _ c.1 h.1, CRL_noOwn X X' s s' hsz hF hr l p p' (i + 1) _ c.2 h.2⟩
theorem CRT_noOwn (X X' : Cx) (s s' : Nat) (hsz : X'.sz = X.sz) (hF : ∀ b, X.F b → X'.F b ∧ X'.w.heap[b]? = X.w.heap[b]?)
    (hr : ∀ u k q, X.old u k → X'.old u k ∧ (X'.node u k q → X.node u k q ∧ ∀ b v, X.kap b = some (u, q, v) → X'.kap b = some (u, q, v))) :
    ∀ (l : List T) (p p' : List Nat) (i : Nat) (vs : List Value), T.noOwnL l = true → CRT X s p i l vs → CRT X' s' p' i l vs
  | [], _, _, _, _, _, h => by simpa only [CRT] using h
  | t :: l, p, p', i, vs, c, h => by
    simp only [CRT] at h ⊢
    simp only [T.noOwnL, Bool.and_eq_true] at c
    obtain ⟨⟨v, cs, h1, h2, h3⟩, h4⟩ := h
    exact ⟨⟨v, cs, h1, h2, CR_noOwn X X' s s' hsz hF hr t _ _ _ c.1 h3⟩, CRT_noOwn X X' s s' hsz hF hr l p p' (i + 1) _ c.2 h4⟩
/-- .. what holds no handle either needs the frozen blocks alone. -/
theorem CR_pure (X X' : Cx) (s s' : Nat) (hsz : X'.sz = X.sz) (hF : ∀ b, X.F b → X'.F b ∧ X'.w.heap[b]? = X.w.heap[b]?) :
    ∀ (t : T) (p p' : List Nat) (cs : List Value), t.pure = true → CR X s p t cs → CR X' s' p' t cs
  | .int .., _, _, _, _, h => by simpa only [CR] using h
  | .bool .., _, _, _, _, h => by simpa only [CR] using h
  | .str .., _, _, _, _, h => by simpa only [CR] using h
  | .any, _, _, _, _, h => by simpa only [CR] using h
  | .nil, _, _, _, _, h => by simpa only [CR] using h
  | .sl true e l, p, p', cs, c, h => by simp [T.pure] at c
  | .sl false e l, p, p', cs, c, h => by
    simp only [CR] at h ⊢
    obtain ⟨a, cap, hcs, h1, h2, h3, h4, h5⟩ := h
    refine ⟨a, cap, hcs, h1, h2, by rw [hsz]; exact h3, h4, fun hl => ?_⟩
    obtain ⟨b, off, ha, hFb, cur, e', fz, hb, h6, h7⟩ := h5 hl
    have hf := hF b hFb
    exact ⟨b, off, ha, hf.1, cur, e', fz, hf.2.trans hb, by rw [hsz]; exact h6, by rw [hsz]; exact CRL_pure X X' s s' hsz hF l p p' 0 _ h4 h7⟩
  | .box e t, p, p', cs, c, h => by simp [T.pure] at c
  | .fptr t, p, p', cs, c, h => by
    simp only [CR] at h ⊢
    obtain ⟨b, off, cur, e, fz, hcs, hFb, hb, h1, h2, h3⟩ := h
    have hf := hF b hFb
    exact ⟨b, off, cur, e, fz, hcs, hf.1, hf.2.trans hb, h1, h2, CR_pure X X' s s' hsz hF t p p' _ h2 h3⟩
  | .agg l, p, p', cs, c, h => by
    simp only [CR] at h ⊢
    exact CRL_pure X X' s s' hsz hF l p p' 0 _ (by simpa [T.pure] using c) h
  | .tup l, p, p', cs, c, h => by
    simp only [CR] at h ⊢
    obtain ⟨vs, hcs, h1⟩ := h
    exact ⟨vs, hcs, CRT_pure X X' s s' hsz hF l p p' 0 _ (by simpa [T.pure] using c) h1⟩
  | .fn f l, p, p', cs, c, h => by
    simp only [CR] at h ⊢
    obtain ⟨vs, hcs, h1⟩ := h
    exact ⟨vs, hcs, CRT_pure X X' s s' hsz hF l p p' 0 _ (by simpa [T.pure] using c) h1⟩
  | .ref u k q, p, p', cs, c, h => by simp [T.pure] at c
  | .addr u k q off sub, p, p', cs, c, h => by simp [T.pure] at c
theorem CRL_pure (X X' : Cx) (s s' : Nat) (hsz : X'.sz = X.sz) (hF : ∀ b, X.F b → X'.F b ∧ X'.w.heap[b]? = X.w.heap[b]?) :
    ∀ (l : List T) (p p' : List Nat) (i : Nat) (cs : List Value), T.pureL l = true → CRL X s p i l cs → CRL X' s' p' i l cs
  | [], _, _, _, _, _, h => by simpa only [CRL] using h
  | t :: l, p, p', i, cs, c, h => by
    simp only [CRL] at h ⊢
    simp only [T.pureL, Bool.and_eq_true] at c
    exact ⟨CR_pure X X' s s' hsz hF t _ _ _ c.1 h.1, CRL_pure X X' s s' hsz hF l p p' (i + 1) _ c.2 h.2⟩
theorem CRT_pure (X X' : Cx) (s s' : Nat) (hsz : X'.sz = X.sz) (hF : ∀ b, X.F b → X'.F b ∧ X'.w.heap[b]? = X.w.heap[b]?) :
    ∀ (l : List T) (p p' : List Nat) (i : Nat) (vs : List Value), T.pureL l = true → CRT X s p i l vs → CRT X' s' p' i l vs
  | [], _, _, _, _, _, h => by simpa only [CRT] using h
  | t :: l, p, p', i, vs, c, h => by
    simp only [CRT] at h ⊢
    simp only [T.pureL, Bool.and_eq_true] at c
    obtain ⟨⟨v, cs, h1, h2, h3⟩, h4⟩ := h
    exact ⟨⟨v, cs, h1, h2, CR_pure X X' s s' hsz hF t _ _ _ c.1 h3⟩, CRT_pure X X' s s' hsz hF l p p' (i + 1) _ c.2 h4⟩
end

end Go.Proofs.Ytjkhggbjkkobaaa

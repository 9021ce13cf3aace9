/-
  The generic part, third text: places in a tree: reading there, writing there.
-/
import Derived.Test.YtjkhggbjkkobaaaMetaB
namespace Go.Proofs.Ytjkhggbjkkobaaa
open Go.RowKit

def T.isAgg : T → Bool
  | .agg _ => true
  | _ => false

/-- The tree at a place. -/
def T.get : List Nat → T → Option T
  | [], t => some t
  | i :: p, .agg l => (l[i]?).bind (T.get p)
  | i :: p, .tup l => (l[i]?).bind (T.get p)
  | i :: p, .sl true _ l => (l[i]?).bind (T.get p)
  | 0 :: p, .box _ t => T.get p t
  | _ :: _, _ => none

/-- .. another tree put there. -/
def T.set (u : T) : List Nat → T → T
  | [], _ => u
  | i :: p, .agg l => .agg (l.modify i (T.set u p))
  | i :: p, .tup l => .tup (l.modify i (T.set u p))
  | i :: p, .sl true e l => .sl true e (l.modify i (T.set u p))
  | 0 :: p, .box e t => .box e (T.set u p t)
  | _ :: _, t => t

theorem mkv_of_isAgg {t t' : T} (h : t.isAgg = t'.isAgg) (cs : List Value) : mkv t cs = mkv t' cs := by
  cases t <;> cases t' <;> simp_all [T.isAgg, mkv]

theorem size_modify {l : List T} {i : Nat} {t : T} {f : T → T} (hi : l[i]? = some t) (h : (f t).size = t.size) : T.sizeL (l.modify i f) = T.sizeL l := by
  induction l generalizing i with
  | nil => simp at hi
  | cons x l ih =>
    cases i with
    | zero =>
      simp at hi; subst hi
      simp [T.sizeL, h]
    | succ i =>
      simp at hi
      simp [T.sizeL, ih hi]

theorem T.size_set (u : T) : ∀ (q : List Nat) (t t0 : T), T.get q t = some t0 → u.size = t0.size → (T.set u q t).size = t.size
  | [], t, t0, h, hu => by simp [T.get] at h; subst h; simpa [T.set] using hu
  | i :: q, .agg l, t0, h, hu => by
    simp only [T.get] at h
    cases hl : l[i]? with
    | none => simp [hl] at h
    | some x =>
      simp [hl] at h
      simp only [T.set, T.size]
      exact size_modify hl (T.size_set u q x t0 h hu)
  | i :: q, .tup l, t0, h, hu => by simp [T.set, T.size]
  | i :: q, .sl true e l, t0, h, hu => by simp [T.set, T.size]
  | 0 :: q, .box e t, t0, h, hu => by simp [T.set, T.size]
  | i :: q, .int .., t0, h, hu => by simp [T.get] at h
  | i :: q, .bool .., t0, h, hu => by simp [T.get] at h
  | i :: q, .str .., t0, h, hu => by simp [T.get] at h
  | i :: q, .any, t0, h, hu => by simp [T.get] at h
  | i :: q, .nil, t0, h, hu => by simp [T.get] at h
  | i :: q, .sl false e l, t0, h, hu => by simp [T.get] at h
  | (i+1) :: q, .box e t, t0, h, hu => by simp [T.get] at h
  | i :: q, .fptr .., t0, h, hu => by simp [T.get] at h
  | i :: q, .fn .., t0, h, hu => by simp [T.get] at h
  | i :: q, .ref .., t0, h, hu => by simp [T.get] at h
  | i :: q, .addr .., t0, h, hu => by simp [T.get] at h

theorem T.isAgg_set (u : T) : ∀ (q : List Nat) (t t0 : T), T.get q t = some t0 → u.isAgg = t0.isAgg → (T.set u q t).isAgg = t.isAgg
  | [], t, t0, h, hu => by simp [T.get] at h; subst h; simpa [T.set] using hu
  | i :: q, .agg l, t0, h, hu => by simp [T.set, T.isAgg]
  | i :: q, .tup l, t0, h, hu => by simp [T.set, T.isAgg]
  | i :: q, .sl true e l, t0, h, hu => by simp [T.set, T.isAgg]
  | 0 :: q, .box e t, t0, h, hu => by simp [T.set, T.isAgg]
  | i :: q, .int .., t0, h, hu => by simp [T.get] at h
  | i :: q, .bool .., t0, h, hu => by simp [T.get] at h
  | i :: q, .str .., t0, h, hu => by simp [T.get] at h
  | i :: q, .any, t0, h, hu => by simp [T.get] at h
  | i :: q, .nil, t0, h, hu => by simp [T.get] at h
  | i :: q, .sl false e l, t0, h, hu => by simp [T.get] at h
  | (i+1) :: q, .box e t, t0, h, hu => by simp [T.get] at h
  | i :: q, .fptr .., t0, h, hu => by simp [T.get] at h
  | i :: q, .fn .., t0, h, hu => by simp [T.get] at h
  | i :: q, .ref .., t0, h, hu => by simp [T.get] at h
  | i :: q, .addr .., t0, h, hu => by simp [T.get] at h

/-- Behind the place p of slot s, away from the place q behind it, nothing has turned. -/
structure Around (X X' : Cx) (s : Nat) (p q : List Nat) : Prop where
  sz : X'.sz = X.sz
  frozen : ∀ b, X.F b → X'.F b ∧ X'.w.heap[b]? = X.w.heap[b]?
  own : ∀ b r v, X.kap b = some (s, p ++ r, v) → ¬ q <+: r → X'.kap b = some (s, p ++ r, v) ∧ X'.w.heap[b]? = X.w.heap[b]?
  refs : ∀ u k q, X.old u k → X'.old u k ∧ (X'.node u k q → X.node u k q ∧ ∀ b v, X.kap b = some (u, q, v) → X'.kap b = some (u, q, v))

theorem Around.carry {X X' : Cx} {s : Nat} {p : List Nat} {i : Nat} {q : List Nat} (h : Around X X' s p (i :: q)) {j : Nat} (hj : j ≠ i) : Carry X X' s s (p ++ [j]) (p ++ [j]) :=
  ⟨h.sz, h.frozen, fun b r v hk => by
    rw [List.append_assoc] at hk ⊢
    exact h.own b _ v hk (by simp only [List.singleton_append, List.cons_prefix_cons]; exact fun e => hj e.1.symm), h.refs⟩

theorem Around.down {X X' : Cx} {s : Nat} {p : List Nat} {i : Nat} {q : List Nat} (h : Around X X' s p (i :: q)) : Around X X' s (p ++ [i]) q :=
  ⟨h.sz, h.frozen, fun b r v hk hn => by
    rw [List.append_assoc] at hk ⊢
    exact h.own b _ v hk (by simp only [List.singleton_append, List.cons_prefix_cons]; exact fun e => hn e.2), h.refs⟩

/-- A row with a new tree at i, over the same cells. -/
theorem CRL_modify {X X' : Cx} {s : Nat} {p : List Nat} {f : T → T} : ∀ (l : List T) (i j : Nat) (cs : List Value) (t : T), l[i]? = some t → CRL X s p j l cs →
    (∀ n, n ≠ j + i → Carry X X' s s (p ++ [n]) (p ++ [n])) → (f t).size = t.size →
    ∃ cs0, CR X s (p ++ [j + i]) t cs0 ∧ (CR X' s (p ++ [j + i]) (f t) cs0 → CRL X' s p j (l.modify i f) cs)
  | [], i, j, cs, t, hi, h, hc, hs => by simp at hi
  | x :: l, 0, j, cs, t, hi, h, hc, hs => by
    simp at hi; subst hi
    simp only [CRL] at h
    refine ⟨_, by simpa using h.1, fun h' => ?_⟩
    simp only [List.modify_zero_cons, CRL, hs]
    refine ⟨by simpa using h', ?_⟩
    -- the rest: all its places are j + 1, ..
    have key : ∀ (l : List T) (n : Nat) (cs : List Value), j < n → CRL X s p n l cs → CRL X' s p n l cs := by
      intro l
      induction l with
      | nil => intro n cs _ h; simpa only [CRL] using h
      | cons y l ih =>
        intro n cs hn h
        simp only [CRL] at h ⊢
        exact ⟨CR_carry X X' s s y _ _ _ (hc n (by omega)) h.1, ih (n + 1) _ (by omega) h.2⟩
    exact key l (j + 1) _ (by omega) h.2
  | x :: l, i + 1, j, cs, t, hi, h, hc, hs => by
    simp at hi
    simp only [CRL] at h
    obtain ⟨cs0, h0, h1⟩ := CRL_modify l i (j + 1) (cs.drop x.size) t hi h.2 (fun n hn => hc n (by omega)) hs
    refine ⟨cs0, by rw [show j + (i + 1) = j + 1 + i by omega]; exact h0, fun h' => ?_⟩
    simp only [List.modify_succ_cons, CRL]
    exact ⟨CR_carry X X' s s x _ _ _ (hc j (by omega)) h.1, h1 (by rw [show j + 1 + i = j + (i + 1) by omega]; exact h')⟩

theorem CRT_modify {X X' : Cx} {s : Nat} {p : List Nat} {f : T → T} : ∀ (l : List T) (i j : Nat) (vs : List Value) (t : T), l[i]? = some t → CRT X s p j l vs →
    (∀ n, n ≠ j + i → Carry X X' s s (p ++ [n]) (p ++ [n])) → (f t).isAgg = t.isAgg →
    ∃ cs0, CR X s (p ++ [j + i]) t cs0 ∧ vs[i]? = some (mkv t cs0) ∧ (CR X' s (p ++ [j + i]) (f t) cs0 → CRT X' s p j (l.modify i f) vs)
  | [], i, j, vs, t, hi, h, hc, hs => by simp at hi
  | x :: l, 0, j, vs, t, hi, h, hc, hs => by
    simp at hi; subst hi
    simp only [CRT] at h
    obtain ⟨⟨v, cs, h1, h2, h3⟩, h4⟩ := h
    refine ⟨cs, by simpa using h3, by rw [← h2, ← h1]; cases vs <;> simp, fun h' => ?_⟩
    simp only [List.modify_zero_cons, CRT]
    refine ⟨⟨v, cs, h1, h2.trans (mkv_of_isAgg hs.symm cs), by simpa using h'⟩, ?_⟩
    have key : ∀ (l : List T) (n : Nat) (vs : List Value), j < n → CRT X s p n l vs → CRT X' s p n l vs := by
      intro l
      induction l with
      | nil => intro n cs _ h; simpa only [CRT] using h
      | cons y l ih =>
        intro n vs hn h
        simp only [CRT] at h ⊢
        obtain ⟨⟨v, cs, h1, h2, h3⟩, h4⟩ := h
        exact ⟨⟨v, cs, h1, h2, CR_carry X X' s s y _ _ _ (hc n (by omega)) h3⟩, ih (n + 1) _ (by omega) h4⟩
    exact key l (j + 1) _ (by omega) h4
  | x :: l, i + 1, j, vs, t, hi, h, hc, hs => by
    simp at hi
    simp only [CRT] at h
    obtain ⟨⟨v, cs, h1, h2, h3⟩, h4⟩ := h
    obtain ⟨cs0, h0, hv, h5⟩ := CRT_modify l i (j + 1) vs.tail t hi h4 (fun n hn => hc n (by omega)) hs
    refine ⟨cs0, by rw [show j + (i + 1) = j + 1 + i by omega]; exact h0, by cases vs <;> simp_all, fun h' => ?_⟩
    simp only [List.modify_succ_cons, CRT]
    exact ⟨⟨v, cs, h1, h2, CR_carry X X' s s x _ _ _ (hc j (by omega)) h3⟩, h5 (by rw [show j + 1 + i = j + (i + 1) by omega]; exact h')⟩

theorem mem_modify_size {l : List T} {i : Nat} {t : T} {f : T → T} {n : Nat} (hi : l[i]? = some t) (h : (f t).size = t.size) (hl : ∀ x ∈ l, x.size = n) : ∀ x ∈ l.modify i f, x.size = n := by
  intro x hx
  rw [List.mem_iff_getElem?] at hx
  obtain ⟨j, hj⟩ := hx
  rw [List.getElem?_modify] at hj
  by_cases e : i = j
  · subst e
    simp [hi] at hj
    subst hj
    rw [h]
    exact hl t (List.mem_of_getElem? hi)
  · simp [e] at hj
    exact hl x (List.mem_of_getElem? hj)

/-- ████ THE FOCUS: at a place of a tree stand cells that read as the tree there; and if in another state of things they read as another tree, and away from the place nothing has turned, then the whole reads as the whole with the new tree put there. -/
theorem CR_focus {X X' : Cx} {s : Nat} : ∀ (q : List Nat) (t : T) (p : List Nat) (cs : List Value) (t0 t1 : T), T.get q t = some t0 → CR X s p t cs →
    t1.size = t0.size → t1.isAgg = t0.isAgg → Around X X' s p q →
    ∃ cs0, CR X s (p ++ q) t0 cs0 ∧ (CR X' s (p ++ q) t1 cs0 → CR X' s p (T.set t1 q t) cs)
  | [], t, p, cs, t0, t1, hg, h, hs, ha, hA => by
    simp [T.get] at hg; subst hg
    exact ⟨cs, by simpa using h, by simp [T.set]⟩
  | i :: q, .agg l, p, cs, t0, t1, hg, h, hs, ha, hA => by
    simp only [T.get] at hg
    cases hl : l[i]? with
    | none => simp [hl] at hg
    | some x =>
      simp [hl] at hg
      simp only [CR] at h
      have hc : ∀ n, n ≠ 0 + i → Carry X X' s s (p ++ [n]) (p ++ [n]) := fun n hn => hA.carry (by omega)
      obtain ⟨cx, h0, h1⟩ := CRL_modify (f := T.set t1 q) l i 0 cs x hl h hc (T.size_set t1 q x t0 hg hs)
      simp only [Nat.zero_add] at h0 h1
      obtain ⟨cs0, h2, h3⟩ := CR_focus q x (p ++ [i]) cx t0 t1 hg h0 hs ha hA.down
      refine ⟨cs0, by simpa using h2, fun h' => ?_⟩
      simp only [T.set, CR]
      exact h1 (h3 (by simpa using h'))
  | i :: q, .tup l, p, cs, t0, t1, hg, h, hs, ha, hA => by
    simp only [T.get] at hg
    cases hl : l[i]? with
    | none => simp [hl] at hg
    | some x =>
      simp [hl] at hg
      simp only [CR] at h
      obtain ⟨vs, hcs, h⟩ := h
      have hc : ∀ n, n ≠ 0 + i → Carry X X' s s (p ++ [n]) (p ++ [n]) := fun n hn => hA.carry (by omega)
      obtain ⟨cx, h0, _, h1⟩ := CRT_modify (f := T.set t1 q) l i 0 vs x hl h hc (T.isAgg_set t1 q x t0 hg ha)
      simp only [Nat.zero_add] at h0 h1
      obtain ⟨cs0, h2, h3⟩ := CR_focus q x (p ++ [i]) cx t0 t1 hg h0 hs ha hA.down
      refine ⟨cs0, by simpa using h2, fun h' => ?_⟩
      simp only [T.set, CR]
      exact ⟨vs, hcs, h1 (h3 (by simpa using h'))⟩
  | i :: q, .sl true e l, p, cs, t0, t1, hg, h, hs, ha, hA => by
    simp only [T.get] at hg
    cases hl : l[i]? with
    | none => simp [hl] at hg
    | some x =>
      simp [hl] at hg
      simp only [CR] at h
      obtain ⟨b, cap, cur, hcs, hb, hk, hn1, hn2, hn3, hn4, h⟩ := h
      have hc : ∀ n, n ≠ 0 + i → Carry X X' s s (p ++ [n]) (p ++ [n]) := fun n hn => hA.carry (by omega)
      have hsz := T.size_set t1 q x t0 hg hs
      obtain ⟨cx, h0, h1⟩ := CRL_modify (f := T.set t1 q) l i 0 _ x hl h hc hsz
      simp only [Nat.zero_add] at h0 h1
      obtain ⟨cs0, h2, h3⟩ := CR_focus q x (p ++ [i]) cx t0 t1 hg h0 hs ha hA.down
      refine ⟨cs0, by simpa using h2, fun h' => ?_⟩
      have hown := hA.own b [] _ (by simpa using hk) (by simp)
      simp only [List.append_nil] at hown
      simp only [T.set, CR, List.length_modify]
      exact ⟨b, cap, cur, hcs, hown.2.trans hb, hown.1, hn1, hn2, by rw [hA.sz]; exact hn3, by rw [hA.sz]; exact mem_modify_size hl hsz hn4, by rw [hA.sz]; exact h1 (h3 (by simpa using h'))⟩
  | 0 :: q, .box e t, p, cs, t0, t1, hg, h, hs, ha, hA => by
    simp only [T.get] at hg
    simp only [CR] at h
    obtain ⟨b, cur, hcs, hb, hk, hn1, hn2, h⟩ := h
    obtain ⟨cs0, h2, h3⟩ := CR_focus q t (p ++ [0]) cur.toList t0 t1 hg h hs ha hA.down
    refine ⟨cs0, by simpa using h2, fun h' => ?_⟩
    have hown := hA.own b [] _ (by simpa using hk) (by simp)
    simp only [List.append_nil] at hown
    have hsz := T.size_set t1 q t t0 hg hs
    simp only [T.set, CR]
    exact ⟨b, cur, hcs, hown.2.trans hb, hown.1, by rw [hA.sz, hsz]; exact hn1, by rw [hsz]; exact hn2, h3 (by simpa using h')⟩
  | i :: q, .int .., p, cs, t0, t1, hg, h, hs, ha, hA => by simp [T.get] at hg
  | i :: q, .bool .., p, cs, t0, t1, hg, h, hs, ha, hA => by simp [T.get] at hg
  | i :: q, .str .., p, cs, t0, t1, hg, h, hs, ha, hA => by simp [T.get] at hg
  | i :: q, .any, p, cs, t0, t1, hg, h, hs, ha, hA => by simp [T.get] at hg
  | i :: q, .nil, p, cs, t0, t1, hg, h, hs, ha, hA => by simp [T.get] at hg
  | i :: q, .sl false e l, p, cs, t0, t1, hg, h, hs, ha, hA => by simp [T.get] at hg
  | (i+1) :: q, .box e t, p, cs, t0, t1, hg, h, hs, ha, hA => by simp [T.get] at hg
  | i :: q, .fptr .., p, cs, t0, t1, hg, h, hs, ha, hA => by simp [T.get] at hg
  | i :: q, .fn .., p, cs, t0, t1, hg, h, hs, ha, hA => by simp [T.get] at hg
  | i :: q, .ref .., p, cs, t0, t1, hg, h, hs, ha, hA => by simp [T.get] at hg
  | i :: q, .addr .., p, cs, t0, t1, hg, h, hs, ha, hA => by simp [T.get] at hg

theorem Around.refl (X : Cx) (s : Nat) (p q : List Nat) : Around X X s p q :=
  ⟨rfl, fun _ h => ⟨h, rfl⟩, fun _ _ _ h _ => ⟨h, rfl⟩, fun _ _ _ h => ⟨h, fun hn => ⟨hn, fun _ _ hk => hk⟩⟩⟩

/-- Reading at a place. -/
theorem CR_get {X : Cx} {s : Nat} (q : List Nat) (t : T) (p : List Nat) (cs : List Value) (t0 : T) (hg : T.get q t = some t0) (h : CR X s p t cs) : ∃ cs0, CR X s (p ++ q) t0 cs0 :=
  let ⟨cs0, h0, _⟩ := CR_focus (X' := X) q t p cs t0 t0 hg h rfl rfl (Around.refl X s _ _)
  ⟨cs0, h0⟩

end Go.Proofs.Ytjkhggbjkkobaaa

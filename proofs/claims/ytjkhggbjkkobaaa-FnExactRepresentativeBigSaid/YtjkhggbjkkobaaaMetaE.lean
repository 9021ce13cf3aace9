/-
  The generic part, fifth text: blocks and their parts; handles; freezing.
-/
import Derived.Test.YtjkhggbjkkobaaaMetaD
namespace Go.Proofs.Ytjkhggbjkkobaaa
open Go.RowKit

def T.isNode : T → Bool
  | .sl true _ _ => true
  | .box _ _ => true
  | _ => false

/-- What lies in the block. -/
def T.kids : T → List T
  | .sl _ _ l => l
  | .box _ t => [t]
  | _ => []

def T.withKids : T → List T → T
  | .sl o e _, l => .sl o e l
  | .box e _, t :: _ => .box e t
  | t, _ => t

/-- The type of a block's elements, and the head's address. -/
def T.elem : T → TypeId
  | .sl _ e _ => e
  | .box e _ => e
  | _ => 0

def headOf (n : T) (b cap : Nat) : Value :=
  match n with
  | .sl _ _ l => .slice (some ⟨b, 0, none⟩) l.length cap
  | _ => .pointer (some ⟨b, 0, none⟩)

theorem sizeL_of_all {l : List T} {n : Nat} (h : ∀ t ∈ l, t.size = n) : T.sizeL l = l.length * n := by
  induction l with
  | nil => simp [T.sizeL]
  | cons x l ih =>
    have h1 := h x (by simp)
    have h2 := ih (fun t ht => h t (by simp [ht]))
    simp [T.sizeL, h1, h2, Nat.add_mul, Nat.add_comm]

/-- A block of its own, opened. -/
theorem node_view {X : Cx} {s : Nat} {p : List Nat} {n : T} {cs : List Value} (hn : n.isNode = true) (h : CR X s p n cs) :
    ∃ b cap cur, cs = [headOf n b cap] ∧ X.w.heap[b]? = some (.cells cur n.elem (0, 0)) ∧ X.kap b = some (s, p, headOf n b cap) ∧
      CRL X s p 0 n.kids (cur.toList.take (T.sizeL n.kids)) ∧ T.sizeL n.kids ≤ cur.size ∧ (∀ t ∈ n.kids, t.size = X.sz n.elem) ∧
      (∀ (X' : Cx) (s' : Nat) (p' : List Nat) (l : List T) (cur' : Array Value), X'.sz = X.sz → l.length = n.kids.length → (∀ t ∈ l, t.size = X.sz n.elem) → cur'.size = cur.size →
        X'.w.heap[b]? = some (.cells cur' n.elem (0, 0)) → X'.kap b = some (s', p', headOf n b cap) → CRL X' s' p' 0 l (cur'.toList.take (T.sizeL l)) →
        CR X' s' p' (n.withKids l) cs) := by
  cases n with
  | sl o e l =>
    cases o with
    | false => simp [T.isNode] at hn
    | true =>
      simp only [CR] at h
      obtain ⟨b, cap, cur, rfl, hb, hk, h1, h2, h3, h4, h5⟩ := h
      have hsz := sizeL_of_all h4
      refine ⟨b, cap, cur, rfl, hb, hk, by simp only [T.kids]; rw [hsz]; exact h5, ?_, h4, ?_⟩
      · simp only [T.kids]; rw [hsz, h3]; exact Nat.mul_le_mul_right _ h1
      · intro X' s' p' l' cur' g1 g2 g3 g4 g5 g6 g7
        simp only [T.kids] at g2
        simp only [T.withKids, CR]
        have hsz' := sizeL_of_all g3
        simp only [T.elem] at g3 hsz' g5
        refine ⟨b, cap, cur', by rw [g2], g5, by rw [g6, headOf, g2], by omega, h2, by rw [g4, h3, g1], by rw [g1]; exact g3, ?_⟩
        rw [hsz'] at g7
        rw [g1]; exact g7
  | box e t =>
    simp only [CR] at h
    obtain ⟨b, cur, rfl, hb, hk, h1, h2, h3⟩ := h
    refine ⟨b, 0, cur, rfl, hb, hk, ?_, ?_, ?_, ?_⟩
    · simp only [T.kids, T.sizeL, CRL, Nat.add_zero]
      rw [List.take_take, Nat.min_self, List.take_of_length_le (by simp; omega)]
      refine ⟨h3, ?_⟩
      rw [List.drop_of_length_le (by simp; omega)]
    · simp [T.kids, T.sizeL]; omega
    · intro x hx; simp [T.kids] at hx; subst hx; exact h1
    · intro X' s' p' l' cur' g1 g2 g3 g4 g5 g6 g7
      match l', g2 with
      | [t'], _ =>
        simp only [T.withKids, CR]
        have ht := g3 t' (by simp)
        simp only [T.sizeL, CRL, Nat.add_zero] at g7
        simp only [T.elem] at g5 ht
        refine ⟨b, cur', rfl, g5, g6, by rw [g1]; exact ht, by omega, ?_⟩
        have := g7.1
        rw [List.take_take, Nat.min_self, List.take_of_length_le (by simp; omega)] at this
        exact this
  | _ => simp [T.isNode] at hn

theorem headOf_withKids {n : T} {l : List T} {b cap : Nat} (hn : n.isNode = true) (h : l.length = n.kids.length) : headOf (n.withKids l) b cap = headOf n b cap := by
  cases n with
  | sl o e l' => simp_all [T.withKids, headOf, T.kids]
  | box e t =>
    match l, h with
    | [t'], _ => simp [T.withKids, headOf]
  | _ => simp [T.isNode] at hn

theorem get_append (p q : List Nat) : ∀ (t n : T), T.get p t = some n → T.get (p ++ q) t = T.get q n := by
  induction p with
  | nil => intro t n h; simp [T.get] at h; subst h; simp
  | cons i p ih =>
    intro t n h
    cases t with
    | agg l =>
      simp only [T.get] at h
      cases hl : l[i]? with
      | none => simp [hl] at h
      | some x => simp [hl] at h; simp [T.get, hl, ih x n h]
    | tup l =>
      simp only [T.get] at h
      cases hl : l[i]? with
      | none => simp [hl] at h
      | some x => simp [hl] at h; simp [T.get, hl, ih x n h]
    | sl o e l =>
      cases o with
      | false => simp [T.get] at h
      | true =>
        simp only [T.get] at h
        cases hl : l[i]? with
        | none => simp [hl] at h
        | some x => simp [hl] at h; simp [T.get, hl, ih x n h]
    | box e t =>
      cases i with
      | zero => simp only [T.get] at h; simp [T.get, ih t n h]
      | succ i => simp [T.get] at h
    | _ => simp [T.get] at h

theorem set_append (u : T) (p q : List Nat) : ∀ (t n : T), T.get p t = some n → T.set u (p ++ q) t = T.set (T.set u q n) p t := by
  induction p with
  | nil => intro t n h; simp [T.get] at h; subst h; simp [T.set]
  | cons i p ih =>
    intro t n h
    cases t with
    | agg l =>
      simp only [T.get] at h
      cases hl : l[i]? with
      | none => simp [hl] at h
      | some x => simp [hl] at h; simp [T.set, modify_eq_set l i _ x hl, ih x n h]
    | tup l =>
      simp only [T.get] at h
      cases hl : l[i]? with
      | none => simp [hl] at h
      | some x => simp [hl] at h; simp [T.set, modify_eq_set l i _ x hl, ih x n h]
    | sl o e l =>
      cases o with
      | false => simp [T.get] at h
      | true =>
        simp only [T.get] at h
        cases hl : l[i]? with
        | none => simp [hl] at h
        | some x => simp [hl] at h; simp [T.set, modify_eq_set l i _ x hl, ih x n h]
    | box e t =>
      cases i with
      | zero => simp only [T.get] at h; simp [T.set, ih t n h]
      | succ i => simp [T.get] at h
    | _ => simp [T.get] at h

theorem set_node {n : T} (hn : n.isNode = true) {i : Nat} {x : T} (hx : n.kids[i]? = some x) (u : T) (sub : List Nat) : T.set u (i :: sub) n = n.withKids (n.kids.set i (T.set u sub x)) := by
  cases n with
  | sl o e l =>
    cases o with
    | false => simp [T.isNode] at hn
    | true =>
      simp only [T.kids] at hx
      simp only [T.set, T.withKids, T.kids, modify_eq_set l i _ x hx]
  | box e t =>
    cases i with
    | zero => simp [T.kids] at hx; subst hx; simp [T.set, T.withKids, T.kids]
    | succ i => simp [T.kids] at hx
  | _ => simp [T.isNode] at hn

theorem get_node {n : T} (hn : n.isNode = true) {i : Nat} {x : T} (hx : n.kids[i]? = some x) (sub : List Nat) : T.get (i :: sub) n = T.get sub x := by
  cases n with
  | sl o e l =>
    cases o with
    | false => simp [T.isNode] at hn
    | true =>
      simp only [T.kids] at hx
      simp [T.get, hx]
  | box e t =>
    cases i with
    | zero => simp [T.kids] at hx; subst hx; simp [T.get]
    | succ i => simp [T.kids] at hx
  | _ => simp [T.isNode] at hn

/-- Where in its block a part begins. -/
def T.offN (n : T) : List Nat → Nat
  | i :: sub => T.sizeL (n.kids.take i) + ((n.kids[i]?).map (T.offI sub)).getD 0
  | [] => 0

/-- The part itself. -/
def T.part (n : T) : List Nat → Option T
  | i :: sub => (n.kids[i]?).bind (T.getI sub)
  | [] => none

theorem part_get {n : T} (hn : n.isNode = true) {sub : List Nat} {t0 : T} (h : n.part sub = some t0) : T.get sub n = some t0 := by
  cases sub with
  | nil => simp [T.part] at h
  | cons i sub =>
    simp only [T.part] at h
    cases hx : n.kids[i]? with
    | none => simp [hx] at h
    | some x =>
      simp [hx] at h
      rw [get_node hn hx]
      exact getI_get sub x t0 h

/-- A part of a block: its cells; and what stands when they are written over. -/
theorem node_part {X X' : Cx} {s : Nat} {p : List Nat} {n : T} {cs : List Value} {sub : List Nat} {t0 : T} (hn : n.isNode = true) (hp : n.part sub = some t0) (h : CR X s p n cs) :
    ∃ b cap cur, cs = [headOf n b cap] ∧ X.w.heap[b]? = some (.cells cur n.elem (0, 0)) ∧ X.kap b = some (s, p, headOf n b cap) ∧
      n.offN sub + t0.size ≤ cur.size ∧ CR X s (p ++ sub) t0 ((cur.toList.drop (n.offN sub)).take t0.size) ∧
      (∀ (t1 : T) (c1 : List Value), t1.size = t0.size → c1.length = t0.size → X'.sz = X.sz → (∀ b, X.F b → X'.F b ∧ X'.w.heap[b]? = X.w.heap[b]?) →
        (∀ b' r v, b' ≠ b → X.kap b' = some (s, p ++ r, v) → ¬ sub <+: r → X'.kap b' = some (s, p ++ r, v) ∧ X'.w.heap[b']? = X.w.heap[b']?) →
        (∀ u k q, X.old u k → X'.old u k ∧ (X'.node u k q → X.node u k q ∧ ∀ b v, X.kap b = some (u, q, v) → X'.kap b = some (u, q, v))) →
        X'.w.heap[b]? = some (.cells (splice cur.toList (n.offN sub) c1).toArray n.elem (0, 0)) → X'.kap b = X.kap b → CR X' s (p ++ sub) t1 c1 →
        CR X' s p (T.set t1 sub n) cs) := by
  cases sub with
  | nil => simp [T.part] at hp
  | cons i sub =>
    simp only [T.part] at hp
    cases hx : n.kids[i]? with
    | none => simp [hx] at hp
    | some x =>
      simp [hx] at hp
      obtain ⟨b, cap, cur, hcs, hb, hk, hL, hle, hall, hre⟩ := node_view hn h
      have h1 := CRL_at n.kids i 0 _ x hx hL
      simp only [Nat.zero_add] at h1
      obtain ⟨h2, h3⟩ := CR_getI sub x (p ++ [i]) _ t0 hp h1
      have hsl := sizeL_take_le n.kids i x hx
      have hoff : n.offN (i :: sub) = T.sizeL (n.kids.take i) + T.offI sub x := by simp [T.offN, hx]
      have hxsz : x.size = X.sz n.elem := hall x (List.mem_of_getElem? hx)
      refine ⟨b, cap, cur, hcs, hb, hk, by omega, ?_, ?_⟩
      · rw [hoff]
        generalize T.sizeL (n.kids.take i) = m at *
        generalize T.offI sub x = o at *
        rw [List.drop_take (j := T.sizeL n.kids), List.drop_take (j := x.size), List.drop_take (j := T.sizeL n.kids - m), List.drop_drop, List.take_take, List.take_take] at h2
        rw [show min (min t0.size (x.size - o)) (T.sizeL n.kids - m - o) = t0.size by omega] at h2
        simpa using h2
      · intro t1 c1 g1 g2 g3 g4 g5 g6 g7 g8 g9
        have hxs : (T.set t1 sub x).size = x.size := T.size_set t1 sub x t0 (getI_get sub x t0 hp) g1
        have carry : ∀ j, j ≠ i → Carry X X' s s (p ++ [j]) (p ++ [j]) := fun j hj =>
          ⟨g3, g4, fun b' r v hk' => by
            rw [List.append_assoc] at hk' ⊢
            have hne : b' ≠ b := by
              rintro rfl
              rw [hk] at hk'
              simp at hk'
            exact g5 b' _ v hne hk' (by simp only [List.singleton_append, List.cons_prefix_cons]; exact fun e => hj e.1.symm), g6⟩
        have around : Around X X' s (p ++ [i]) sub := ⟨g3, g4, fun b' r v hk' hnp => by
            rw [List.append_assoc] at hk' ⊢
            have hne : b' ≠ b := by
              rintro rfl
              rw [hk] at hk'
              simp at hk'
            exact g5 b' _ v hne hk' (by simp only [List.singleton_append, List.cons_prefix_cons]; exact fun e => hnp e.2), g6⟩
        have h4 := CR_putI (X' := X') sub x (p ++ [i]) _ t0 t1 c1 hp h1 g1 g2 around (by simpa using g9)
        have hlx : (splice ((((cur.toList.take (T.sizeL n.kids)).drop (T.sizeL (n.kids.take i))).take x.size)) (T.offI sub x) c1).length = x.size := by
          have := CR_len X' s _ _ _ h4
          rw [this, hxs]
        have h5 := CRL_put (X' := X') n.kids i 0 _ x (T.set t1 sub x) _ hx hL (fun j hj => carry j (by omega)) hxs hlx (by simpa using h4)
        have hlen : (cur.toList.take (T.sizeL n.kids)).length = T.sizeL n.kids := by simp; omega
        rw [splice_splice _ _ _ _ _ (by omega) (by omega), ← splice_take (by omega) (by simp; omega)] at h5
        have hsz' : T.sizeL (n.kids.set i (T.set t1 sub x)) = T.sizeL n.kids := by
          rw [← modify_eq_set n.kids i (fun _ => T.set t1 sub x) x hx]
          exact size_modify hx hxs
        rw [set_node hn hx]
        refine hre X' s p _ _ g3 (by simp) ?_ ?_ g7 (g8.trans hk) ?_
        · rw [← modify_eq_set n.kids i (fun _ => T.set t1 sub x) x hx]
          exact mem_modify_size hx hxs hall
        · simp only [List.size_toArray]
          rw [splice_length (by simp; omega)]; simp
        · rw [hsz']
          simpa [hoff] using h5

mutual
/-- Handles to what slot s (version k) holds at place p. -/
def T.borrow (s k : Nat) : List Nat → T → T
  | p, .sl true _ _ => .ref s k p
  | p, .box _ _ => .addr s k p 0 [0]
  | p, .agg l => .agg (T.borrowL s k p 0 l)
  | p, .tup l => .tup (T.borrowL s k p 0 l)
  | p, .fn f l => .fn f (T.borrowL s k p 0 l)
  | _, t => t
def T.borrowL (s k : Nat) : List Nat → Nat → List T → List T
  | _, _, [] => []
  | p, i, t :: l => T.borrow s k (p ++ [i]) t :: T.borrowL s k p (i + 1) l
end

mutual
theorem noOwn_borrow (s k : Nat) : ∀ (t : T) (p : List Nat), (T.borrow s k p t).noOwn = true
  | .sl true .., _ => by simp [T.borrow, T.noOwn]
  | .sl false .., _ => by simp [T.borrow, T.noOwn]
  | .box .., _ => by simp [T.borrow, T.noOwn]
  | .agg l, p => by simpa [T.borrow, T.noOwn] using noOwn_borrowL s k l p 0
  | .tup l, p => by simpa [T.borrow, T.noOwn] using noOwn_borrowL s k l p 0
  | .fn _ l, p => by simpa [T.borrow, T.noOwn] using noOwn_borrowL s k l p 0
  | .int .., _ => by simp [T.borrow, T.noOwn]
  | .bool .., _ => by simp [T.borrow, T.noOwn]
  | .str .., _ => by simp [T.borrow, T.noOwn]
  | .any, _ => by simp [T.borrow, T.noOwn]
  | .nil, _ => by simp [T.borrow, T.noOwn]
  | .fptr .., _ => by simp [T.borrow, T.noOwn]
  | .ref .., _ => by simp [T.borrow, T.noOwn]
  | .addr .., _ => by simp [T.borrow, T.noOwn]
theorem noOwn_borrowL (s k : Nat) : ∀ (l : List T) (p : List Nat) (i : Nat), T.noOwnL (T.borrowL s k p i l) = true
  | [], _, _ => by simp [T.borrowL, T.noOwnL]
  | t :: l, p, i => by simp [T.borrowL, T.noOwnL, noOwn_borrow s k t, noOwn_borrowL s k l]
end

mutual
theorem size_borrow (s k : Nat) : ∀ (t : T) (p : List Nat), (T.borrow s k p t).size = t.size
  | .sl true .., _ => by simp [T.borrow, T.size]
  | .sl false .., _ => by simp [T.borrow, T.size]
  | .box .., _ => by simp [T.borrow, T.size]
  | .agg l, p => by simpa [T.borrow, T.size] using size_borrowL s k l p 0
  | .tup l, p => by simp [T.borrow, T.size]
  | .fn _ l, p => by simp [T.borrow, T.size]
  | .int .., _ => by simp [T.borrow, T.size]
  | .bool .., _ => by simp [T.borrow, T.size]
  | .str .., _ => by simp [T.borrow, T.size]
  | .any, _ => by simp [T.borrow, T.size]
  | .nil, _ => by simp [T.borrow, T.size]
  | .fptr .., _ => by simp [T.borrow, T.size]
  | .ref .., _ => by simp [T.borrow, T.size]
  | .addr .., _ => by simp [T.borrow, T.size]
theorem size_borrowL (s k : Nat) : ∀ (l : List T) (p : List Nat) (i : Nat), T.sizeL (T.borrowL s k p i l) = T.sizeL l
  | [], _, _ => by simp [T.borrowL, T.sizeL]
  | t :: l, p, i => by simp [T.borrowL, T.sizeL, size_borrow s k t, size_borrowL s k l]
end

theorem isAgg_borrow (s k : Nat) (t : T) (p : List Nat) : (T.borrow s k p t).isAgg = t.isAgg := by
  cases t with
  | sl o e l => cases o <;> simp [T.borrow, T.isAgg]
  | _ => simp [T.borrow, T.isAgg]

mutual
theorem CR_borrow {X : Cx} {s k : Nat} (ho : X.old s k) : ∀ (t : T) (p : List Nat) (cs : List Value) (s' : Nat) (p' : List Nat), CR X s p t cs → CR X s' p' (T.borrow s k p t) cs
  | .sl true e l, p, cs, s', p', h => by
    simp only [CR, T.borrow] at h ⊢
    obtain ⟨b, cap, cur, hcs, hb, hk, _⟩ := h
    exact ⟨_, hcs, ho, fun _ => ⟨b, hk⟩⟩
  | .sl false e l, p, cs, s', p', h => by
    exact CR_noOwn X X s s' rfl (fun _ h => ⟨h, rfl⟩) (fun _ _ _ h => ⟨h, fun hn => ⟨hn, fun _ _ h => h⟩⟩) (.sl false e l) p p' cs rfl h
  | .box e t, p, cs, s', p', h => by
    simp only [CR, T.borrow] at h ⊢
    obtain ⟨b, cur, hcs, hb, hk, _⟩ := h
    exact ⟨_, hcs, ho, fun _ => ⟨b, _, hk, rfl⟩⟩
  | .agg l, p, cs, s', p', h => by
    simp only [CR, T.borrow] at h ⊢
    exact CRL_borrow ho l p 0 cs s' p' h
  | .tup l, p, cs, s', p', h => by
    simp only [CR, T.borrow] at h ⊢
    obtain ⟨vs, hcs, h1⟩ := h
    exact ⟨vs, hcs, CRT_borrow ho l p 0 vs s' p' h1⟩
  | .fn f l, p, cs, s', p', h => by
    simp only [CR, T.borrow] at h ⊢
    obtain ⟨vs, hcs, h1⟩ := h
    exact ⟨vs, hcs, CRT_borrow ho l p 0 vs s' p' h1⟩
  | .int .., p, cs, s', p', h => by simpa only [CR, T.borrow] using h
  | .bool .., p, cs, s', p', h => by simpa only [CR, T.borrow] using h
  | .str .., p, cs, s', p', h => by simpa only [CR, T.borrow] using h
  | .any, p, cs, s', p', h => by simpa only [CR, T.borrow] using h
  | .nil, p, cs, s', p', h => by simpa only [CR, T.borrow] using h
  | .fptr t, p, cs, s', p', h => by
    exact CR_noOwn X X s s' rfl (fun _ h => ⟨h, rfl⟩) (fun _ _ _ h => ⟨h, fun hn => ⟨hn, fun _ _ h => h⟩⟩) (.fptr t) p p' cs rfl h
  | .ref .., p, cs, s', p', h => by simpa only [CR, T.borrow] using h
  | .addr .., p, cs, s', p', h => by simpa only [CR, T.borrow] using h
theorem CRL_borrow {X : Cx} {s k : Nat} (ho : X.old s k) : ∀ (l : List T) (p : List Nat) (i : Nat) (cs : List Value) (s' : Nat) (p' : List Nat), CRL X s p i l cs → CRL X s' p' i (T.borrowL s k p i l) cs
  | [], p, i, cs, s', p', h => by simpa only [CRL, T.borrowL] using h
  | t :: l, p, i, cs, s', p', h => by
    simp only [CRL, T.borrowL] at h ⊢
    rw [size_borrow]
    exact ⟨CR_borrow ho t _ _ s' _ h.1, CRL_borrow ho l p (i + 1) _ s' p' h.2⟩
theorem CRT_borrow {X : Cx} {s k : Nat} (ho : X.old s k) : ∀ (l : List T) (p : List Nat) (i : Nat) (vs : List Value) (s' : Nat) (p' : List Nat), CRT X s p i l vs → CRT X s' p' i (T.borrowL s k p i l) vs
  | [], p, i, cs, s', p', h => by simpa only [CRT, T.borrowL] using h
  | t :: l, p, i, vs, s', p', h => by
    simp only [CRT, T.borrowL] at h ⊢
    obtain ⟨⟨v, cs, h1, h2, h3⟩, h4⟩ := h
    exact ⟨⟨v, cs, h1, by rw [h2]; exact mkv_of_isAgg (isAgg_borrow s k t _).symm cs, CR_borrow ho t _ _ s' _ h3⟩, CRT_borrow ho l p (i + 1) _ s' p' h4⟩
end

mutual
/-- As data that nobody writes. -/
def T.freeze : T → T
  | .sl true e l => .sl false e (T.freezeL l)
  | .box _ t => .fptr t.freeze
  | .agg l => .agg (T.freezeL l)
  | .tup l => .tup (T.freezeL l)
  | .fn f l => .fn f (T.freezeL l)
  | t => t
def T.freezeL : List T → List T
  | [] => []
  | t :: l => t.freeze :: T.freezeL l
end

theorem freezeL_map (l : List T) : T.freezeL l = l.map T.freeze := by
  induction l with
  | nil => simp [T.freezeL]
  | cons x l ih => simp [T.freezeL, ih]

mutual
theorem size_freeze : ∀ (t : T), t.freeze.size = t.size
  | .sl true .. => by simp [T.freeze, T.size]
  | .sl false .. => by simp [T.freeze, T.size]
  | .box .. => by simp [T.freeze, T.size]
  | .agg l => by simpa [T.freeze, T.size] using size_freezeL l
  | .tup l => by simp [T.freeze, T.size]
  | .fn _ l => by simp [T.freeze, T.size]
  | .int .. => by simp [T.freeze, T.size]
  | .bool .. => by simp [T.freeze, T.size]
  | .str .. => by simp [T.freeze, T.size]
  | .any => by simp [T.freeze, T.size]
  | .nil => by simp [T.freeze, T.size]
  | .fptr .. => by simp [T.freeze, T.size]
  | .ref .. => by simp [T.freeze, T.size]
  | .addr .. => by simp [T.freeze, T.size]
theorem size_freezeL : ∀ (l : List T), T.sizeL (T.freezeL l) = T.sizeL l
  | [] => by simp [T.freezeL, T.sizeL]
  | t :: l => by simp [T.freezeL, T.sizeL, size_freeze t, size_freezeL l]
end

theorem isAgg_freeze (t : T) : t.freeze.isAgg = t.isAgg := by
  cases t with
  | sl o e l => cases o <;> simp [T.freeze, T.isAgg]
  | _ => simp [T.freeze, T.isAgg]

mutual
theorem CR_freeze {X X' : Cx} {s s' : Nat} (hsz : X'.sz = X.sz) (hw : ∀ b : Nat, X.w.heap[b]? ≠ none → X'.w.heap[b]? = X.w.heap[b]?) (hF : ∀ b, X.F b → X'.F b) :
    ∀ (t : T) (p p' : List Nat) (cs : List Value), t.refFree = true → (∀ b r v, X.kap b = some (s, p ++ r, v) → X'.F b) → CR X s p t cs → CR X' s' p' t.freeze cs ∧ t.freeze.pure = true
  | .sl true e l, p, p', cs, hr, hk, h => by
    simp only [CR, T.freeze] at h ⊢
    obtain ⟨b, cap, cur, hcs, hb, hkb, h1, h2, h3, h4, h5⟩ := h
    have hl := CRL_freeze (s' := s') hsz hw hF l p p' 0 _ (by simpa [T.refFree] using hr) hk h5
    have hb' := (hw b (by rw [hb]; exact fun e => by cases e)).trans hb
    refine ⟨⟨some ⟨b, 0, none⟩, cap, by rw [hcs, freezeL_map, List.length_map], by rw [freezeL_map, List.length_map]; exact h1, h2, ?_, hl.2, fun _ => ⟨b, 0, rfl, hk b [] _ (by simpa using hkb), cur, e, (0, 0), hb', ?_, ?_⟩⟩, by simp [T.pure, hl.2]⟩
    · intro t ht
      rw [freezeL_map, List.mem_map] at ht
      obtain ⟨u, hu, rfl⟩ := ht
      rw [size_freeze, hsz]
      exact h4 u hu
    · rw [freezeL_map, List.length_map, hsz, h3, Nat.zero_add]; exact Nat.mul_le_mul_right _ h1
    · rw [hsz, List.drop_zero]
      have := hl.1
      rwa [show (T.freezeL l).length = l.length by rw [freezeL_map, List.length_map]]
  | .sl false e l, p, p', cs, hr, hk, h => by
    have h' := h
    simp only [CR] at h'
    obtain ⟨a, cap, hcs, h1, h2, h3, h4, h5⟩ := h'
    have hp : (T.sl false e l).pure = true := by simp [T.pure, h4]
    refine ⟨?_, by simpa [T.freeze] using hp⟩
    simp only [T.freeze, CR]
    refine ⟨a, cap, hcs, h1, h2, by rw [hsz]; exact h3, h4, fun hl => ?_⟩
    obtain ⟨b, off, ha, hFb, cur, e', fz, hb, h6, h7⟩ := h5 hl
    refine ⟨b, off, ha, hF b hFb, cur, e', fz, (hw b (by rw [hb]; exact fun e => by cases e)).trans hb, by rw [hsz]; exact h6, ?_⟩
    rw [hsz]
    exact CRL_pureE (s' := s') hsz hw hF l p p' 0 _ h4 h7
  | .box e t, p, p', cs, hr, hk, h => by
    simp only [CR, T.freeze] at h ⊢
    obtain ⟨b, cur, hcs, hb, hkb, h1, h2, h3⟩ := h
    have ht := CR_freeze (s' := s') hsz hw hF t (p ++ [0]) p' _ (by simpa [T.refFree] using hr) (fun b r v h => hk b (0 :: r) v (by simpa using h)) h3
    refine ⟨⟨b, 0, cur, e, (0, 0), hcs, hk b [] _ (by simpa using hkb), (hw b (by rw [hb]; exact fun e => by cases e)).trans hb, by rw [size_freeze]; omega, ht.2, ?_⟩, by simp [T.pure, ht.2]⟩
    rw [List.drop_zero, size_freeze, List.take_of_length_le (by simp; omega)]
    exact ht.1
  | .agg l, p, p', cs, hr, hk, h => by
    simp only [CR, T.freeze] at h ⊢
    have := CRL_freeze (s' := s') hsz hw hF l p p' 0 _ (by simpa [T.refFree] using hr) hk h
    exact ⟨this.1, by simp [T.pure, this.2]⟩
  | .tup l, p, p', cs, hr, hk, h => by
    simp only [CR, T.freeze] at h ⊢
    obtain ⟨vs, hcs, h1⟩ := h
    have := CRT_freeze (s' := s') hsz hw hF l p p' 0 _ (by simpa [T.refFree] using hr) hk h1
    exact ⟨⟨vs, hcs, this.1⟩, by simp [T.pure, this.2]⟩
  | .fn f l, p, p', cs, hr, hk, h => by
    simp only [CR, T.freeze] at h ⊢
    obtain ⟨vs, hcs, h1⟩ := h
    have := CRT_freeze (s' := s') hsz hw hF l p p' 0 _ (by simpa [T.refFree] using hr) hk h1
    exact ⟨⟨vs, hcs, this.1⟩, by simp [T.pure, this.2]⟩
  | .int .., p, p', cs, hr, hk, h => by refine ⟨?_, by simp [T.freeze, T.pure]⟩; simpa only [CR, T.freeze] using h
  | .bool .., p, p', cs, hr, hk, h => by refine ⟨?_, by simp [T.freeze, T.pure]⟩; simpa only [CR, T.freeze] using h
  | .str .., p, p', cs, hr, hk, h => by refine ⟨?_, by simp [T.freeze, T.pure]⟩; simpa only [CR, T.freeze] using h
  | .any, p, p', cs, hr, hk, h => by refine ⟨?_, by simp [T.freeze, T.pure]⟩; simpa only [CR, T.freeze] using h
  | .nil, p, p', cs, hr, hk, h => by refine ⟨?_, by simp [T.freeze, T.pure]⟩; simpa only [CR, T.freeze] using h
  | .fptr t, p, p', cs, hr, hk, h => by
    have h' := h
    simp only [CR] at h'
    obtain ⟨b, off, cur, e, fz, hcs, hFb, hb, h1, h2, h3⟩ := h'
    refine ⟨?_, by simp [T.freeze, T.pure, h2]⟩
    simp only [T.freeze, CR]
    exact ⟨b, off, cur, e, fz, hcs, hF b hFb, (hw b (by rw [hb]; exact fun e => by cases e)).trans hb, h1, h2, CR_pureE (s' := s') hsz hw hF t p p' _ h2 h3⟩
  | .ref .., p, p', cs, hr, hk, h => by simp [T.refFree] at hr
  | .addr .., p, p', cs, hr, hk, h => by simp [T.refFree] at hr
theorem CRL_freeze {X X' : Cx} {s s' : Nat} (hsz : X'.sz = X.sz) (hw : ∀ b : Nat, X.w.heap[b]? ≠ none → X'.w.heap[b]? = X.w.heap[b]?) (hF : ∀ b, X.F b → X'.F b) :
    ∀ (l : List T) (p p' : List Nat) (i : Nat) (cs : List Value), T.refFreeL l = true → (∀ b r v, X.kap b = some (s, p ++ r, v) → X'.F b) → CRL X s p i l cs → CRL X' s' p' i (T.freezeL l) cs ∧ T.pureL (T.freezeL l) = true
  | [], p, p', i, cs, hr, hk, h => by refine ⟨?_, by simp [T.freezeL, T.pureL]⟩; simpa only [CRL, T.freezeL] using h
  | t :: l, p, p', i, cs, hr, hk, h => by
    simp only [CRL, T.freezeL] at h ⊢
    simp only [T.refFreeL, Bool.and_eq_true] at hr
    have h1 := CR_freeze (s' := s') hsz hw hF t (p ++ [i]) (p' ++ [i]) _ hr.1 (fun b r v h => hk b (i :: r) v (by simpa using h)) h.1
    have h2 := CRL_freeze (s' := s') hsz hw hF l p p' (i + 1) _ hr.2 hk h.2
    rw [size_freeze]
    exact ⟨⟨h1.1, h2.1⟩, by simp [T.pureL, h1.2, h2.2]⟩
theorem CRT_freeze {X X' : Cx} {s s' : Nat} (hsz : X'.sz = X.sz) (hw : ∀ b : Nat, X.w.heap[b]? ≠ none → X'.w.heap[b]? = X.w.heap[b]?) (hF : ∀ b, X.F b → X'.F b) :
    ∀ (l : List T) (p p' : List Nat) (i : Nat) (vs : List Value), T.refFreeL l = true → (∀ b r v, X.kap b = some (s, p ++ r, v) → X'.F b) → CRT X s p i l vs → CRT X' s' p' i (T.freezeL l) vs ∧ T.pureL (T.freezeL l) = true
  | [], p, p', i, cs, hr, hk, h => by refine ⟨?_, by simp [T.freezeL, T.pureL]⟩; simpa only [CRT, T.freezeL] using h
  | t :: l, p, p', i, vs, hr, hk, h => by
    simp only [CRT, T.freezeL] at h ⊢
    simp only [T.refFreeL, Bool.and_eq_true] at hr
    obtain ⟨⟨v, cs, h1, h2, h3⟩, h4⟩ := h
    have h5 := CR_freeze (s' := s') hsz hw hF t (p ++ [i]) (p' ++ [i]) _ hr.1 (fun b r v h => hk b (i :: r) v (by simpa using h)) h3
    have h6 := CRT_freeze (s' := s') hsz hw hF l p p' (i + 1) _ hr.2 hk h4
    exact ⟨⟨⟨v, cs, h1, by rw [h2]; exact mkv_of_isAgg (isAgg_freeze t).symm cs, h5.1⟩, h6.1⟩, by simp [T.pureL, h5.2, h6.2]⟩
/-- Pure data, where the frozen blocks that exist hold what they held. -/
theorem CR_pureE {X X' : Cx} {s s' : Nat} (hsz : X'.sz = X.sz) (hw : ∀ b : Nat, X.w.heap[b]? ≠ none → X'.w.heap[b]? = X.w.heap[b]?) (hF : ∀ b, X.F b → X'.F b) :
    ∀ (t : T) (p p' : List Nat) (cs : List Value), t.pure = true → CR X s p t cs → CR X' s' p' t cs
  | .int .., _, _, _, _, h => by simpa only [CR] using h
  | .bool .., _, _, _, _, h => by simpa only [CR] using h
  | .str .., _, _, _, _, h => by simpa only [CR] using h
  | .any, _, _, _, _, h => by simpa only [CR] using h
  | .nil, _, _, _, _, h => by simpa only [CR] using h
  | .sl true e l, p, p', cs, c, h => by simp [T.pure] at c
  | .sl false e l, p, p', cs, c, h => by
    simp only [CR] at h ⊢
    obtain ⟨a, cap, hcs, h1, h2, h3, h4, h5⟩ := h
    refine ⟨a, cap, hcs, h1, h2, by rw [hsz]; exact h3, h4, fun hl => ?_⟩
    obtain ⟨b, off, ha, hFb, cur, e', fz, hb, h6, h7⟩ := h5 hl
    refine ⟨b, off, ha, hF b hFb, cur, e', fz, (hw b (by rw [hb]; exact fun e => by cases e)).trans hb, by rw [hsz]; exact h6, ?_⟩
    rw [hsz]
    exact CRL_pureE (s' := s') hsz hw hF l p p' 0 _ h4 h7
  | .box e t, p, p', cs, c, h => by simp [T.pure] at c
  | .fptr t, p, p', cs, c, h => by
    simp only [CR] at h ⊢
    obtain ⟨b, off, cur, e, fz, hcs, hFb, hb, h1, h2, h3⟩ := h
    exact ⟨b, off, cur, e, fz, hcs, hF b hFb, (hw b (by rw [hb]; exact fun e => by cases e)).trans hb, h1, h2, CR_pureE (s' := s') hsz hw hF t p p' _ h2 h3⟩
  | .agg l, p, p', cs, c, h => by
    simp only [CR] at h ⊢
    exact CRL_pureE (s' := s') hsz hw hF l p p' 0 _ (by simpa [T.pure] using c) h
  | .tup l, p, p', cs, c, h => by
    simp only [CR] at h ⊢
    obtain ⟨vs, hcs, h1⟩ := h
    exact ⟨vs, hcs, CRT_pureE (s' := s') hsz hw hF l p p' 0 _ (by simpa [T.pure] using c) h1⟩
  | .fn f l, p, p', cs, c, h => by
    simp only [CR] at h ⊢
    obtain ⟨vs, hcs, h1⟩ := h
    exact ⟨vs, hcs, CRT_pureE (s' := s') hsz hw hF l p p' 0 _ (by simpa [T.pure] using c) h1⟩
  | .ref u k q, p, p', cs, c, h => by simp [T.pure] at c
  | .addr u k q off sub, p, p', cs, c, h => by simp [T.pure] at c
theorem CRL_pureE {X X' : Cx} {s s' : Nat} (hsz : X'.sz = X.sz) (hw : ∀ b : Nat, X.w.heap[b]? ≠ none → X'.w.heap[b]? = X.w.heap[b]?) (hF : ∀ b, X.F b → X'.F b) :
    ∀ (l : List T) (p p' : List Nat) (i : Nat) (cs : List Value), T.pureL l = true → CRL X s p i l cs → CRL X' s' p' i l cs
  | [], _, _, _, _, _, h => by simpa only [CRL] using h
  | t :: l, p, p', i, cs, c, h => by
    simp only [CRL] at h ⊢
    simp only [T.pureL, Bool.and_eq_true] at c
    exact ⟨CR_pureE (s' := s') hsz hw hF t _ _ _ c.1 h.1, CRL_pureE (s' := s') hsz hw hF l p p' (i + 1) _ c.2 h.2⟩
theorem CRT_pureE {X X' : Cx} {s s' : Nat} (hsz : X'.sz = X.sz) (hw : ∀ b : Nat, X.w.heap[b]? ≠ none → X'.w.heap[b]? = X.w.heap[b]?) (hF : ∀ b, X.F b → X'.F b) :
    ∀ (l : List T) (p p' : List Nat) (i : Nat) (vs : List Value), T.pureL l = true → CRT X s p i l vs → CRT X' s' p' i l vs
  | [], _, _, _, _, _, h => by simpa only [CRT] using h
  | t :: l, p, p', i, vs, c, h => by
    simp only [CRT] at h ⊢
    simp only [T.pureL, Bool.and_eq_true] at c
    obtain ⟨⟨v, cs, h1, h2, h3⟩, h4⟩ := h
    exact ⟨⟨v, cs, h1, h2, CR_pureE (s' := s') hsz hw hF t _ _ _ c.1 h3⟩, CRT_pureE (s' := s') hsz hw hF l p p' (i + 1) _ c.2 h4⟩
end

end Go.Proofs.Ytjkhggbjkkobaaa

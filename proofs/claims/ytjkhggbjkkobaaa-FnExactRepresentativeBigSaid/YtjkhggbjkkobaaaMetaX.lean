/-
  The generic part, twenty-fourth text: code over slots.
-/
import Derived.Test.YtjkhggbjkkobaaaMetaW
namespace Go.Proofs.Ytjkhggbjkkobaaa
open Go.RowKit

mutual
/-- Its handles lead to these slots alone. -/
def T.refsIn (S : Nat → Bool) : T → Bool
  | .ref s _ _ => S s
  | .addr s _ _ _ _ => S s
  | .agg l => T.refsInL S l
  | .tup l => T.refsInL S l
  | .fn _ l => T.refsInL S l
  | _ => true
def T.refsInL (S : Nat → Bool) : List T → Bool
  | [] => true
  | t :: l => t.refsIn S && T.refsInL S l
end

mutual
theorem CR_refsIn (X X' : Cx) (S : Nat → Bool) (hsz : X'.sz = X.sz) (hF : X'.F = X.F) (hw : X'.w = X.w) (hk : X'.kap = X.kap) (hr : ∀ u k, S u = true → X.old u k → X'.old u k) (hn : ∀ u k q, X'.node u k q → X.node u k q) (s : Nat) :
    ∀ (t : T) (p : List Nat) (cs : List Value), t.noOwn = true → t.refsIn S = true → CR X s p t cs → CR X' s p t cs
  | .int .., _, _, _, _, h => by simpa only [CR] using h
  | .bool .., _, _, _, _, h => by simpa only [CR] using h
  | .str .., _, _, _, _, h => by simpa only [CR] using h
  | .any, _, _, _, _, h => by simpa only [CR] using h
  | .nil, _, _, _, _, h => by simpa only [CR] using h
  | .sl true e l, p, cs, c, _, h => by simp [T.noOwn] at c
  | .sl false e l, p, cs, c, _, h => by
    have h' := h
    simp only [CR] at h'
    obtain ⟨_, _, _, _, _, _, h4, _⟩ := h'
    exact CR_pure X X' s s hsz (fun b hb => ⟨by rw [hF]; exact hb, by rw [hw]⟩) (.sl false e l) p p cs (by simpa [T.pure] using h4) h
  | .box e t, p, cs, c, _, h => by simp [T.noOwn] at c
  | .fptr t, p, cs, c, _, h => by
    have h' := h
    simp only [CR] at h'
    obtain ⟨_, _, _, _, _, _, _, _, _, h4, _⟩ := h'
    exact CR_pure X X' s s hsz (fun b hb => ⟨by rw [hF]; exact hb, by rw [hw]⟩) (.fptr t) p p cs (by simpa [T.pure] using h4) h
  | .agg l, p, cs, c, g, h => by
    simp only [CR] at h ⊢
    exact CRL_refsIn X X' S hsz hF hw hk hr hn s l p 0 _ (by simpa [T.noOwn] using c) (by simpa [T.refsIn] using g) h
  | .tup l, p, cs, c, g, h => by
    simp only [CR] at h ⊢
    obtain ⟨vs, hcs, h1⟩ := h
    exact ⟨vs, hcs, CRT_refsIn X X' S hsz hF hw hk hr hn s l p 0 _ (by simpa [T.noOwn] using c) (by simpa [T.refsIn] using g) h1⟩
  | .fn f l, p, cs, c, g, h => by
    simp only [CR] at h ⊢
    obtain ⟨vs, hcs, h1⟩ := h
    exact ⟨vs, hcs, CRT_refsIn X X' S hsz hF hw hk hr hn s l p 0 _ (by simpa [T.noOwn] using c) (by simpa [T.refsIn] using g) h1⟩
  | .ref u k q, p, cs, c, g, h => by
    simp only [CR] at h ⊢
    obtain ⟨v, hcs, h1, h2⟩ := h
    refine ⟨v, hcs, hr u k (by simpa [T.refsIn] using g) h1, fun hn' => ?_⟩
    rw [hk]; exact h2 (hn u k q hn')
  | .addr u k q off sub, p, cs, c, g, h => by
    simp only [CR] at h ⊢
    obtain ⟨v, hcs, h1, h2⟩ := h
    refine ⟨v, hcs, hr u k (by simpa [T.refsIn] using g) h1, fun hn' => ?_⟩
    rw [hk]; exact h2 (hn u k q hn')
theorem CRL_refsIn (X X' : Cx) (S : Nat → Bool) (hsz : X'.sz = X.sz) (hF : X'.F = X.F) (hw : X'.w = X.w) (hk : X'.kap = X.kap) (hr : ∀ u k, S u = true → X.old u k → X'.old u k) (hn : ∀ u k q, X'.node u k q → X.node u k q) (s : Nat) :
    ∀ (l : List T) (p : List Nat) (i : Nat) (cs : List Value), T.noOwnL l = true → T.refsInL S l = true → CRL X s p i l cs → CRL X' s p i l cs
  | [], _, _, _, _, _, h => by simpa only [CRL] using h
  | t :: l, p, i, cs, c, g, h => by
    simp only [CRL] at h ⊢
    simp only [T.noOwnL, Bool.and_eq_true] at c
    simp only [T.refsInL, Bool.and_eq_true] at g
    exact ⟨CR_refsIn X X' S hsz hF hw hk hr hn s t _ _ c.1 g.1 h.1, CRL_refsIn X X' S hsz hF hw hk hr hn s l p (i + 1) _ c.2 g.2 h.2⟩
theorem CRT_refsIn (X X' : Cx) (S : Nat → Bool) (hsz : X'.sz = X.sz) (hF : X'.F = X.F) (hw : X'.w = X.w) (hk : X'.kap = X.kap) (hr : ∀ u k, S u = true → X.old u k → X'.old u k) (hn : ∀ u k q, X'.node u k q → X.node u k q) (s : Nat) :
    ∀ (l : List T) (p : List Nat) (i : Nat) (vs : List Value), T.noOwnL l = true → T.refsInL S l = true → CRT X s p i l vs → CRT X' s p i l vs
  | [], _, _, _, _, _, h => by simpa only [CRT] using h
  | t :: l, p, i, vs, c, g, h => by
    simp only [CRT] at h ⊢
    simp only [T.noOwnL, Bool.and_eq_true] at c
    simp only [T.refsInL, Bool.and_eq_true] at g
    obtain ⟨⟨v, cs, h1, h2, h3⟩, h4⟩ := h
    exact ⟨⟨v, cs, h1, h2, CR_refsIn X X' S hsz hF hw hk hr hn s t _ _ c.1 g.1 h3⟩, CRT_refsIn X X' S hsz hF hw hk hr hn s l p (i + 1) _ c.2 g.2 h4⟩
end

def hasSlot (env : Env) (t : Nat) : Bool := env.any fun x => x.1 == t

/-- Every entry of the first is the second's. -/
def Sub : Env → Env → Prop
  | [], _ => True
  | (t, s) :: r, env => lk env t = some s ∧ Sub r env

def SV.refsIn (S : Nat → Bool) : SV → Bool
  | .val y => y.refsIn S
  | _ => true

def refsOk (env : Env) : Bool := env.all fun x => x.2.sv.refsIn (hasSlot env)

theorem lk_mem : ∀ (env : Env) (t : Nat) (s : Slot), lk env t = some s → (t, s) ∈ env
  | [], _, _, h => by simp [lk] at h
  | (u, x) :: r, t, s, h => by
    simp only [lk] at h
    split at h
    · rename_i e; subst e; cases h; simp
    · exact List.mem_cons_of_mem _ (lk_mem r t s h)

theorem Sub.mem : ∀ (e1 env : Env) (t : Nat) (s : Slot), Sub e1 env → (t, s) ∈ e1 → lk env t = some s
  | [], _, _, _, _, h => by simp at h
  | (u, x) :: r, env, t, s, hs, h => by
    rcases List.mem_cons.1 h with h | h
    · cases h; exact hs.1
    · exact Sub.mem r env t s hs.2 h

theorem Sub.lk {e1 env : Env} (h : Sub e1 env) {t : Nat} {s : Slot} (hl : Go.Proofs.Ytjkhggbjkkobaaa.lk e1 t = some s) : Go.Proofs.Ytjkhggbjkkobaaa.lk env t = some s :=
  h.mem e1 env t s (lk_mem _ _ _ hl)

theorem lk_has : ∀ (env : Env) (t : Nat), hasSlot env t = true → ∃ s, lk env t = some s
  | [], _, h => by simp [hasSlot] at h
  | (u, x) :: r, t, h => by
    simp only [lk]
    by_cases e : u = t
    · exact ⟨x, by rw [if_pos e]⟩
    · rw [if_neg e]
      refine lk_has r t ?_
      simp only [hasSlot, List.any_cons, Bool.or_eq_true, beq_iff_eq] at h
      simpa [hasSlot] using h.resolve_left e

section
variable {C : Ctx} {env : Env} {V : Nat → Value} {w : World} {κ : Kap} {a : Act} {n : Nat} {tt : Tt} {P : Program}

theorem Inv.sub {e1 : Env} (hs : Sub e1 env) (hr : refsOk e1 = true) (h : Inv C env V w κ) : Inv C e1 V w κ := by
  have ho : ∀ u k, hasSlot e1 u = true → (cx C env w κ).old u k → (cx C e1 w κ).old u k := fun u k h1 h2 => by
    obtain ⟨s, h3⟩ := lk_has e1 u h1
    obtain ⟨x, h4, h5⟩ := h2
    rw [hs.lk h3] at h4
    cases h4
    exact ⟨s, h3, h5⟩
  have hn : ∀ u k q, (cx C e1 w κ).node u k q → (cx C env w κ).node u k q := fun u k q h1 => by
    obtain ⟨T0, nd, h2, h3⟩ := h1
    exact ⟨T0, nd, hs.lk h2, h3⟩
  refine ⟨h.os, h.tape, h.output, h.size, h.frozen, h.col, h.inj, fun t k x hx => ?_, fun t k x hx => ?_, fun t k hx => h.und t k (hs.lk hx)⟩
  · obtain ⟨h1, cs, h2, h3⟩ := h.val t k x (hs.lk hx)
    have h4 : x.refsIn (hasSlot e1) = true := by
      have := List.all_eq_true.1 hr _ (lk_mem _ _ _ hx)
      simpa [SV.refsIn] using this
    exact ⟨h1, cs, h2, CR_refsIn (cx C env w κ) (cx C e1 w κ) (hasSlot e1) rfl rfl rfl rfl ho hn t x [] cs h1 h4 h3⟩
  · obtain ⟨h1, cs, h2, h3⟩ := h.own t k x (hs.lk hx)
    exact ⟨h1, cs, h2, CR_refFree (X := cx C env w κ) (X' := cx C e1 w κ) rfl rfl rfl rfl t x [] cs h1 h3⟩

theorem FR.sub {e1 : Env} (hs : Sub e1 env) (hr : refsOk e1 = true) (h : FR C n env a w) : FR C n e1 a w :=
  ⟨h.defers, h.size, let ⟨κ, V, h1, h2⟩ := h.inv; ⟨κ, V, h1.sub hs hr, h2⟩⟩

/-- ████ From every state with these slots the code runs to one of those ends. -/
def AWP (C : Ctx) (n : Nat) (c : Code) (Q : Exit → Env → Prop) (env : Env) : Prop :=
  ∀ a w, FR C n env a w → c.wp C.P (fun e a' w' => ∃ env', Q e env' ∧ FR C n env' a' w') a w

def thenQ (K : Env → Prop) (Q : Exit → Env → Prop) : Exit → Env → Prop
  | .normal, env => K env
  | e, env => Q e env

def blockQ (id : Nat) (Q : Exit → Env → Prop) : Exit → Env → Prop
  | .exit i, env => if i = id then Q .normal env else Q (.exit i) env
  | e, env => Q e env

variable {Q : Exit → Env → Prop}

theorem AWP.mono {c : Code} {Q' : Exit → Env → Prop} (h : AWP C n c Q env) (hq : ∀ e env, Q e env → Q' e env) : AWP C n c Q' env := fun a w hF =>
  wp_mono (h a w hF) (fun e _ _ ⟨env', h1, h2⟩ => ⟨env', hq e env' h1, h2⟩)

theorem AWP.sub {c : Code} {e1 : Env} (hs : Sub e1 env) (hr : refsOk e1 = true) (h : AWP C n c Q e1) : AWP C n c Q env := fun a w hF => h a w (hF.sub hs hr)

theorem AWP.skip (h : Q .normal env) : AWP C n .skip Q env := fun _ _ hF => wp_skip ⟨env, h, hF⟩
theorem AWP.label {l : Nat} (h : Q .normal env) : AWP C n (.label l) Q env := fun _ _ hF => wp_label ⟨env, h, hF⟩
theorem AWP.exit {id : Nat} (h : Q (.exit id) env) : AWP C n (.exit id) Q env := fun _ _ hF => wp_exit ⟨env, h, hF⟩
theorem AWP.ret (h : Q .ret env) : AWP C n .ret Q env := fun _ _ hF => wp_ret ⟨env, h, hF⟩

theorem AWP.seq {x y : Code} (h : AWP C n x (thenQ (AWP C n y Q) Q) env) : AWP C n (.seq x y) Q env := fun a w hF =>
  wp_seq (wp_mono (h a w hF) (fun e a' w' ⟨env', h1, h2⟩ => by
    cases e with
    | normal => exact h1 a' w' h2
    | _ => exact ⟨env', h1, h2⟩))

theorem AWP.block {id : Nat} {c : Code} (h : AWP C n c (blockQ id Q) env) : AWP C n (.block id c) Q env := fun a w hF =>
  wp_block (wp_mono (h a w hF) (fun e a' w' ⟨env', h1, h2⟩ => by
    cases e with
    | exit i =>
      simp only [blockQ] at h1
      simp only [Exit.inBlock]
      split at h1
      · rename_i hi; rw [if_pos hi]; exact ⟨env', h1, h2⟩
      · rename_i hi; rw [if_neg hi]; exact ⟨env', h1, h2⟩
    | _ => exact ⟨env', h1, h2⟩))

theorem AWP.cond {c : Nat} {x y : Code} {k : Nat} {b : Bool} (hc : c < 1000000) (hl : lk env c = some ⟨k, .val (.bool b)⟩) (ht : b = true → AWP C n x Q env) (hf : b = false → AWP C n y Q env) : AWP C n (.cond (.tmp c) x y) Q env := fun a w hF =>
  wp_cond_split (t := b) (bool_at hF hc hl) (fun h => ht h a w hF) (fun h => hf h a w hF)

theorem AWP.cond_const {x y : Code} {b : Bool} (ht : b = true → AWP C n x Q env) (hf : b = false → AWP C n y Q env) : AWP C n (.cond (.const (.bool b)) x y) Q env := fun a w hF =>
  wp_cond_split (t := b) rfl (fun h => ht h a w hF) (fun h => hf h a w hF)

theorem AWP.text (hP : TtOk C.P tt) (md : FuncId → List Bool) (hn1 : n ≤ 1000000) {ops : Array Oper} {id : Nat} (hok : ops.toList.all (opOk n) = true)
    (h : rgn (AFn C.P) (fun _ => True) (Q .normal) (gRds tt md ops ops.toList 0) env []) : AWP C n (.region id ops false) Q env := fun _ _ hF =>
  region_text hP md hn1 hok hF h (fun env' _ _ h1 h2 => ⟨env', h1, h2⟩)

theorem AWP.any (hm : C.P.follows .mixedOrders = true) (hP : TtOk C.P tt) (md : FuncId → List Bool) (hn1 : n ≤ 1000000) {ops : Array Oper} {id : Nat} (hok : ops.toList.all (opOk n) = true)
    (h : rgn (AFn C.P) (fun tr => okB ops tr = true) (Q .normal) (gRds tt md ops ops.toList 0) env []) : AWP C n (.region id ops true) Q env := fun _ _ hF =>
  region_any hm hP md hn1 hok hF h (fun env' _ _ h1 h2 => ⟨env', h1, h2⟩)

theorem exists_least (p : Nat → Prop) (h : ∃ m, p m) : ∃ m, p m ∧ ∀ k, p k → m ≤ k := by
  obtain ⟨m, hm⟩ := h
  induction m using Nat.strongRecOn with
  | _ m ih =>
    by_cases hh : ∃ k, k < m ∧ p k
    · obtain ⟨k, hk, hpk⟩ := hh
      exact ih k hk hpk
    · exact ⟨m, hm, fun k hk => Nat.le_of_not_lt (fun hlt => hh ⟨k, hlt, hk⟩)⟩

open Classical in
noncomputable def leastOf (p : Nat → Prop) : Nat := if h : ∃ m, p m then Classical.choose (exists_least p h) else 0

theorem leastOf_spec {p : Nat → Prop} (h : ∃ m, p m) : p (leastOf p) ∧ ∀ k, p k → leastOf p ≤ k := by
  unfold leastOf
  rw [dif_pos h]
  exact Classical.choose_spec (exists_least p h)

/-- A loop: its states, each with slots and a measure that falls. -/
theorem AWP.loop {α : Type} {c : Code} (sh : α → Env) (I : α → Prop) (μ : α → Nat) (x0 : α) (h0 : I x0) (hr : ∀ x, refsOk (sh x) = true) (hs : Sub (sh x0) env)
    (round : ∀ x, I x → AWP C n c (thenQ (fun env' => ∃ y, I y ∧ μ y < μ x ∧ Sub (sh y) env') Q) (sh x)) : AWP C n (.loop c) Q env := fun a w hF => by
  let st : Act → World → Nat → Prop := fun a w m => ∃ x, I x ∧ μ x = m ∧ FR C n (sh x) a w
  refine wp_loop (fun a w => ∃ m, st a w m) (fun a w => leastOf (st a w)) ⟨μ x0, x0, h0, rfl, hF.sub hs (hr x0)⟩ (fun a w hI => ?_)
  obtain ⟨⟨x, hx, hm, hF'⟩, _⟩ := leastOf_spec hI
  refine wp_mono (round x hx a w hF') (fun e a' w' ⟨env', h1, h2⟩ => ?_)
  cases e with
  | normal =>
    obtain ⟨y, hy, hlt, hsub⟩ := h1
    have hy' : st a' w' (μ y) := ⟨y, hy, rfl, h2.sub hsub (hr y)⟩
    exact ⟨⟨_, hy'⟩, Nat.lt_of_le_of_lt ((leastOf_spec ⟨_, hy'⟩).2 _ hy') (by rw [← hm]; exact hlt)⟩
  | _ => exact ⟨env', h1, h2⟩

end

end Go.Proofs.Ytjkhggbjkkobaaa

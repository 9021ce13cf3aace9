/-
  The generic part, twenty-fifth text: a function's beginning and its end.
-/
import Derived.Test.YtjkhggbjkkobaaaMetaX
namespace Go.Proofs.Ytjkhggbjkkobaaa
open Go.RowKit

mutual
/-- It leads to no frozen block. -/
def T.noF : T → Bool
  | .sl o _ l => o && T.noFL l
  | .fptr _ => false
  | .box _ t => t.noF
  | .agg l => T.noFL l
  | .tup l => T.noFL l
  | .fn _ l => T.noFL l
  | _ => true
def T.noFL : List T → Bool
  | [] => true
  | t :: l => t.noF && T.noFL l
end

mutual
theorem CR_noF (X X' : Cx) (hsz : X'.sz = X.sz) (hw : X'.w = X.w) (hk : X'.kap = X.kap) (ho : X'.old = X.old) (hn : X'.node = X.node) (s : Nat) :
    ∀ (t : T) (p : List Nat) (cs : List Value), t.noF = true → CR X s p t cs → CR X' s p t cs
  | .int .., _, _, _, h => by simpa only [CR] using h
  | .bool .., _, _, _, h => by simpa only [CR] using h
  | .str .., _, _, _, h => by simpa only [CR] using h
  | .any, _, _, _, h => by simpa only [CR] using h
  | .nil, _, _, _, h => by simpa only [CR] using h
  | .sl true e l, p, cs, c, h => by
    simp only [CR] at h ⊢
    obtain ⟨b, cap, cur, h1, h2, h3, h4, h5, h6, h7, h8⟩ := h
    exact ⟨b, cap, cur, h1, by rw [hw]; exact h2, by rw [hk]; exact h3, h4, h5, by rw [hsz]; exact h6, by rw [hsz]; exact h7,
      by rw [hsz]; exact CRL_noF X X' hsz hw hk ho hn s l p 0 _ (by simpa [T.noF] using c) h8⟩
  | .sl false e l, p, cs, c, h => by simp [T.noF] at c
  | .box e t, p, cs, c, h => by
    simp only [CR] at h ⊢
    obtain ⟨b, cur, h1, h2, h3, h4, h5, h6⟩ := h
    exact ⟨b, cur, h1, by rw [hw]; exact h2, by rw [hk]; exact h3, by rw [hsz]; exact h4, h5, CR_noF X X' hsz hw hk ho hn s t _ _ (by simpa [T.noF] using c) h6⟩
  | .fptr t, p, cs, c, h => by simp [T.noF] at c
  | .agg l, p, cs, c, h => by
    simp only [CR] at h ⊢
    exact CRL_noF X X' hsz hw hk ho hn s l p 0 _ (by simpa [T.noF] using c) h
  | .tup l, p, cs, c, h => by
    simp only [CR] at h ⊢
    obtain ⟨vs, hcs, h1⟩ := h
    exact ⟨vs, hcs, CRT_noF X X' hsz hw hk ho hn s l p 0 _ (by simpa [T.noF] using c) h1⟩
  | .fn f l, p, cs, c, h => by
    simp only [CR] at h ⊢
    obtain ⟨vs, hcs, h1⟩ := h
    exact ⟨vs, hcs, CRT_noF X X' hsz hw hk ho hn s l p 0 _ (by simpa [T.noF] using c) h1⟩
  | .ref u k q, p, cs, _, h => by
    simp only [CR] at h ⊢
    rw [hk, ho, hn]; exact h
  | .addr u k q off sub, p, cs, _, h => by
    simp only [CR] at h ⊢
    rw [hk, ho, hn]; exact h
theorem CRL_noF (X X' : Cx) (hsz : X'.sz = X.sz) (hw : X'.w = X.w) (hk : X'.kap = X.kap) (ho : X'.old = X.old) (hn : X'.node = X.node) (s : Nat) :
    ∀ (l : List T) (p : List Nat) (i : Nat) (cs : List Value), T.noFL l = true → CRL X s p i l cs → CRL X' s p i l cs
  | [], _, _, _, _, h => by simpa only [CRL] using h
  | t :: l, p, i, cs, c, h => by
    simp only [CRL] at h ⊢
    simp only [T.noFL, Bool.and_eq_true] at c
    exact ⟨CR_noF X X' hsz hw hk ho hn s t _ _ c.1 h.1, CRL_noF X X' hsz hw hk ho hn s l p (i + 1) _ c.2 h.2⟩
theorem CRT_noF (X X' : Cx) (hsz : X'.sz = X.sz) (hw : X'.w = X.w) (hk : X'.kap = X.kap) (ho : X'.old = X.old) (hn : X'.node = X.node) (s : Nat) :
    ∀ (l : List T) (p : List Nat) (i : Nat) (vs : List Value), T.noFL l = true → CRT X s p i l vs → CRT X' s p i l vs
  | [], _, _, _, _, h => by simpa only [CRT] using h
  | t :: l, p, i, vs, c, h => by
    simp only [CRT] at h ⊢
    simp only [T.noFL, Bool.and_eq_true] at c
    obtain ⟨⟨v, cs, h1, h2, h3⟩, h4⟩ := h
    exact ⟨⟨v, cs, h1, h2, CR_noF X X' hsz hw hk ho hn s t _ _ c.1 h3⟩, CRT_noF X X' hsz hw hk ho hn s l p (i + 1) _ c.2 h4⟩
end

/-- A result reads so. -/
def RdRes (P : Program) (w : World) (tmps : Array Value) (v : Value) : ResultVar → Prop
  | .tmp t => tmps.getD t undef = v
  | .cell a t => ∃ ad, tmps.getD a undef = .pointer (some ad) ∧ (loadVar t ad).run P w = .ok v w

/-- Where a result lies: the slot, the place in its tree, the tree there. -/
def resSrc (tt : Tt) (env : Env) : ResultVar → Option (Nat × List Nat × T)
  | .tmp t => if t < 1000000 then match lk env t with
    | some ⟨_, .own y⟩ => if y.noF then some (t, [], y) else none
    | some ⟨_, .val y⟩ => if y.plain then some (t, [], y) else none
    | _ => none
    else none
  | .cell a ty => if a < 1000000 then match lk env a, tyAt tt ty with
    | some ⟨_, .own (.box _ y)⟩, some it => if y.size = it.size ∧ y.isAgg = it.zero.isAgg ∧ y.noF = true then some (a, [0], y) else none
    | _, _ => none
    else none

mutual
theorem plain_refFree : ∀ (t : T), t.plain = true → t.refFree = true ∧ t.noF = true
  | .int .., _ => ⟨rfl, rfl⟩
  | .bool .., _ => ⟨rfl, rfl⟩
  | .str .., _ => ⟨rfl, rfl⟩
  | .nil, _ => ⟨rfl, rfl⟩
  | .agg l, h => by
    have := plainL_refFree l (by simpa [T.plain] using h)
    exact ⟨by simpa [T.refFree] using this.1, by simpa [T.noF] using this.2⟩
  | .any, h => by simp [T.plain] at h
  | .sl .., h => by simp [T.plain] at h
  | .box .., h => by simp [T.plain] at h
  | .fptr .., h => by simp [T.plain] at h
  | .tup .., h => by simp [T.plain] at h
  | .fn .., h => by simp [T.plain] at h
  | .ref .., h => by simp [T.plain] at h
  | .addr .., h => by simp [T.plain] at h
theorem plainL_refFree : ∀ (l : List T), T.plainL l = true → T.refFreeL l = true ∧ T.noFL l = true
  | [], _ => ⟨rfl, rfl⟩
  | t :: l, h => by
    simp only [T.plainL, Bool.and_eq_true] at h
    have h1 := plain_refFree t h.1
    have h2 := plainL_refFree l h.2
    exact ⟨by simp [T.refFreeL, h1.1, h2.1], by simp [T.noFL, h1.2, h2.2]⟩
end

section
variable {C : Ctx} {env : Env} {V : Nat → Value} {w : World} {κ : Kap} {a : Act} {n : Nat} {tt : Tt} {P : Program}

theorem resSrc_run (hP : TtOk C.P tt) (hI : Inv C env V w κ) (hV : ∀ t, t < 1000000 → V t = a.tmps.getD t undef) {x : ResultVar} {s : Nat} {p : List Nat} {y : T} (h : resSrc tt env x = some (s, p, y)) :
    ∃ cs, RdRes C.P w a.tmps (mkv y cs) x ∧ y.refFree = true ∧ y.noF = true ∧ CR (cx C env w κ) s p y cs := by
  cases x with
  | tmp t =>
    simp only [resSrc] at h
    split at h
    · rename_i ht
      split at h
      · rename_i k y' hl
        split at h
        · rename_i hno
          simp only [Option.some.injEq, Prod.mk.injEq] at h
          obtain ⟨rfl, rfl, rfl⟩ := h
          obtain ⟨h1, cs, h2, h3⟩ := hI.own _ _ _ hl
          exact ⟨cs, by simp only [RdRes]; rw [← hV _ ht, h2], h1, hno, h3⟩
        · cases h
      · rename_i k y' hl
        split at h
        · rename_i hpl
          simp only [Option.some.injEq, Prod.mk.injEq] at h
          obtain ⟨rfl, rfl, rfl⟩ := h
          obtain ⟨h1, cs, h2, h3⟩ := hI.val _ _ _ hl
          exact ⟨cs, by simp only [RdRes]; rw [← hV _ ht, h2], (plain_refFree _ hpl).1, (plain_refFree _ hpl).2, h3⟩
        · cases h
      · cases h
    · cases h
  | cell a' ty =>
    simp only [resSrc] at h
    split at h
    · rename_i ht
      split at h
      · rename_i k e y' it hl hit
        split at h
        · rename_i hc
          simp only [Option.some.injEq, Prod.mk.injEq] at h
          obtain ⟨rfl, rfl, rfl⟩ := h
          obtain ⟨h1, cs, h2, h3⟩ := hI.own _ _ _ hl
          simp only [CR] at h3
          obtain ⟨b, cur, rfl, hb, hk, hs1, hs2, hC⟩ := h3
          simp only [mkv, List.headD] at h2
          refine ⟨cur.toList, ?_, by simpa [T.refFree] using h1, hc.2.2, by simpa using hC⟩
          have hrun := run_loadAt (w := w) hP hit (off := 0) hb y' hc.1 hc.2.1 (by omega)
          have e0 : a.tmps.getD a' undef = .pointer (some ⟨b, 0, none⟩) := by rw [← hV _ ht, h2]
          have hlen : (cur.toList.drop 0).take y'.size = cur.toList := by rw [List.drop_zero, ← hs2, ← Array.length_toList, List.take_length]
          rw [hlen] at hrun
          exact ⟨_, e0, by simpa only [Instr.loadAt, Instr.sureAddr, Sem.run_bind, Sem.run_pure, Result.andThen_ok] using hrun⟩
        · cases h
      · cases h
    · cases h

/-- Where the blocks of the results go. -/
def place (bs : Nat → List Nat) : List (Nat × List Nat × T) → Nat → Nat → List Nat → Option (List Nat)
  | [], _, _, _ => none
  | (s0, p0, _) :: l, j, s, q => if s0 = s then (if p0.isPrefixOf q then some (bs j ++ q.drop p0.length) else none) else place bs l (j + 1) s q

theorem place_some (bs : Nat → List Nat) : ∀ (l : List (Nat × List Nat × T)) (j s : Nat) (q r : List Nat), place bs l j s q = some r → ∃ i p y q', l[i]? = some (s, p, y) ∧ q = p ++ q' ∧ r = bs (j + i) ++ q'
  | [], _, _, _, _, h => by simp [place] at h
  | (s0, p0, y0) :: l, j, s, q, r, h => by
    simp only [place] at h
    split at h
    · rename_i e
      subst e
      split at h
      · rename_i hp
        obtain ⟨q', rfl⟩ := List.isPrefixOf_iff_prefix.1 hp
        simp at h
        exact ⟨0, p0, y0, q', rfl, rfl, h.symm⟩
      · cases h
    · obtain ⟨i, p, y, q', h1, h2, h3⟩ := place_some bs l (j + 1) s q r h
      exact ⟨i + 1, p, y, q', by simpa using h1, h2, by rw [h3]; congr 2; omega⟩

theorem place_at (bs : Nat → List Nat) : ∀ (l : List (Nat × List Nat × T)) (j i s : Nat) (p q' : List Nat) (y : T), (l.map (·.1)).Nodup → l[i]? = some (s, p, y) → place bs l j s (p ++ q') = some (bs (j + i) ++ q')
  | [], _, _, _, _, _, _, _, h => by simp at h
  | (s0, p0, y0) :: l, j, i, s, p, q', y, hnd, h => by
    simp only [List.map_cons, List.nodup_cons] at hnd
    cases i with
    | zero =>
      simp at h
      obtain ⟨rfl, rfl, rfl⟩ := h
      simp [place, List.isPrefixOf_iff_prefix]
    | succ i =>
      have hne : s0 ≠ s := fun e => hnd.1 (List.mem_map.2 ⟨(s, p, y), List.mem_of_getElem? (by simpa using h), e.symm⟩)
      simp only [place]
      rw [if_neg hne, place_at bs l (j + 1) i s p q' y hnd.2 (by simpa using h)]
      congr 3
      omega

/-- The slots of a call's arguments. -/
def argEnv : Nat → List T → Env
  | _, [] => []
  | i, t :: l => (i, ⟨0, mkSV t⟩) :: argEnv (i + 1) l

theorem lk_argEnv : ∀ (l : List T) (i t : Nat) (s : Slot), lk (argEnv i l) t = some s → ∃ j x, l[j]? = some x ∧ t = i + j ∧ s = ⟨0, mkSV x⟩
  | [], _, _, _, h => by simp [argEnv, lk] at h
  | x :: l, i, t, s, h => by
    simp only [argEnv, lk] at h
    split at h
    · rename_i e
      cases h
      exact ⟨0, x, rfl, by omega, rfl⟩
    · obtain ⟨j, y, h1, h2, h3⟩ := lk_argEnv l (i + 1) t s h
      exact ⟨j + 1, y, by simpa using h1, by omega, h3⟩

/-- The results' trees as one. -/
def resT : List (Nat × List Nat × T) → T
  | [x] => x.2.2
  | l => .tup (l.map (·.2.2))

/-- A call's end: these results. -/
def retOk (tt : Tt) (rs : List ResultVar) (r : T) (env : Env) : Prop := ∃ l, rs.map (resSrc tt env) = l.map some ∧ (l.map (·.1)).Nodup ∧ r = resT l

def endQ (tt : Tt) (rs : List ResultVar) (r : T) : Exit → Env → Prop
  | .normal, env => retOk tt rs r env
  | .ret, env => retOk tt rs r env
  | _, _ => False

theorem results1 {fn : Func} {x : ResultVar} {tmps : Array Value} {v : Value} (h : fn.results.toList = [x]) (hx : RdRes P w tmps v x) : (results fn tmps).run P w = .ok v w := by
  have h' : fn.results = #[x] := by apply Array.ext'; simpa using h
  have key : ∀ f : ResultVar → Sem Value, (f x).run P w = .ok v w → (do let vs ← #[x].mapM f; pure (if h : vs.size = 1 then vs[0] else .tuple vs) : Sem Value).run P w = .ok v w := fun f hf => by
    simp [hf]
  unfold results
  rw [h']
  refine key _ ?_
  cases x with
  | tmp t => simpa [RdRes] using hx
  | cell a t => obtain ⟨ad, h1, h2⟩ := hx; simp only [h1, asAddr, Sem.run_bind, Sem.run_pure, Result.andThen_ok, h2]

theorem results2 {fn : Func} {x y : ResultVar} {tmps : Array Value} {v u : Value} (h : fn.results.toList = [x, y]) (hx : RdRes P w tmps v x) (hy : RdRes P w tmps u y) : (results fn tmps).run P w = .ok (.tuple #[v, u]) w := by
  have h' : fn.results = #[x, y] := by apply Array.ext'; simpa using h
  have key : ∀ f : ResultVar → Sem Value, (f x).run P w = .ok v w → (f y).run P w = .ok u w → (do let vs ← #[x, y].mapM f; pure (if h : vs.size = 1 then vs[0] else .tuple vs) : Sem Value).run P w = .ok (.tuple #[v, u]) w := fun f hf hg => by
    simp [Sem.run_bind, hf, hg]
  unfold results
  rw [h']
  refine key _ ?_ ?_
  · cases x with
    | tmp t => simpa [RdRes] using hx
    | cell a t => obtain ⟨ad, h1, h2⟩ := hx; simp only [h1, asAddr, Sem.run_bind, Sem.run_pure, Result.andThen_ok, h2]
  · cases y with
    | tmp t => simpa [RdRes] using hy
    | cell a t => obtain ⟨ad, h1, h2⟩ := hy; simp only [h1, asAddr, Sem.run_bind, Sem.run_pure, Result.andThen_ok, h2]

theorem results3 {fn : Func} {x y z : ResultVar} {tmps : Array Value} {v u t : Value} (h : fn.results.toList = [x, y, z]) (hx : RdRes P w tmps v x) (hy : RdRes P w tmps u y) (hz : RdRes P w tmps t z) : (results fn tmps).run P w = .ok (.tuple #[v, u, t]) w := by
  have h' : fn.results = #[x, y, z] := by apply Array.ext'; simpa using h
  have key : ∀ f : ResultVar → Sem Value, (f x).run P w = .ok v w → (f y).run P w = .ok u w → (f z).run P w = .ok t w → (do let vs ← #[x, y, z].mapM f; pure (if h : vs.size = 1 then vs[0] else .tuple vs) : Sem Value).run P w = .ok (.tuple #[v, u, t]) w := fun f hf hg hh => by
    simp [Sem.run_bind, hf, hg, hh]
  unfold results
  rw [h']
  refine key _ ?_ ?_ ?_
  · cases x with
    | tmp t => simpa [RdRes] using hx
    | cell a t => obtain ⟨ad, h1, h2⟩ := hx; simp only [h1, asAddr, Sem.run_bind, Sem.run_pure, Result.andThen_ok, h2]
  · cases y with
    | tmp t => simpa [RdRes] using hy
    | cell a t => obtain ⟨ad, h1, h2⟩ := hy; simp only [h1, asAddr, Sem.run_bind, Sem.run_pure, Result.andThen_ok, h2]
  · cases z with
    | tmp t => simpa [RdRes] using hz
    | cell a t => obtain ⟨ad, h1, h2⟩ := hz; simp only [h1, asAddr, Sem.run_bind, Sem.run_pure, Result.andThen_ok, h2]

end

end Go.Proofs.Ytjkhggbjkkobaaa

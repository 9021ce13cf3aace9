/-
  The generic part, sixth text: what is known of a frame's slots, and how it turns.
-/
import Derived.Test.YtjkhggbjkkobaaaMetaE
namespace Go.Proofs.Ytjkhggbjkkobaaa
open Go.RowKit

/-- A slot's content: data (with handles), or a tree of its own, or nothing. -/
inductive SV where
  | val (t : T)
  | own (t : T)
  | undef

structure Slot where
  ver : Nat
  sv : SV

abbrev Env := List (Nat × Slot)

def lk : Env → Nat → Option Slot
  | [], _ => none
  | (u, s) :: r, t => if u = t then some s else lk r t

def verOf : Option Slot → Nat
  | some s => s.ver
  | none => 0

/-- The call: its program, the world it began in, the blocks that were handed over to it. -/
structure Ctx where
  P : Program
  w0 : World
  mv : Nat → Prop

def Ctx.F (C : Ctx) (b : Nat) : Prop := b < C.w0.heap.size ∧ ¬ C.mv b

abbrev Kap := Nat → Option (Nat × List Nat × Value)

def cx (C : Ctx) (env : Env) (w : World) (κ : Kap) : Cx where
  sz := C.P.cellsOf
  w := w
  F := C.F
  kap := κ
  old := fun s k => ∃ x, lk env s = some x ∧ k ≤ x.ver
  node := fun s k p => ∃ T0 n, lk env s = some ⟨k, .own T0⟩ ∧ T.get p T0 = some n ∧ n.isNode = true

def VR (X : Cx) (s : Nat) (t : T) (v : Value) : Prop := ∃ cs, v = mkv t cs ∧ CR X s [] t cs

structure Inv (C : Ctx) (env : Env) (V : Nat → Value) (w : World) (κ : Kap) : Prop where
  os : w.os = C.w0.os
  tape : w.tape = C.w0.tape
  output : w.output = C.w0.output
  size : C.w0.heap.size ≤ w.heap.size
  frozen : ∀ b, C.F b → w.heap[b]? = C.w0.heap[b]?
  col : ∀ b s p v, κ b = some (s, p, v) → b < w.heap.size ∧ ¬ C.F b
  inj : ∀ b b' s p v v', κ b = some (s, p, v) → κ b' = some (s, p, v') → b = b'
  val : ∀ t k x, lk env t = some ⟨k, .val x⟩ → x.noOwn = true ∧ VR (cx C env w κ) t x (V t)
  own : ∀ t k x, lk env t = some ⟨k, .own x⟩ → x.refFree = true ∧ VR (cx C env w κ) t x (V t)
  und : ∀ t k, lk env t = some ⟨k, .undef⟩ → V t = undef

def upd (V : Nat → Value) (d : Nat) (v : Value) : Nat → Value := fun t => if t = d then v else V t

theorem upd_same (V : Nat → Value) (d : Nat) (v : Value) : upd V d v d = v := by simp [upd]
theorem upd_other (V : Nat → Value) (d t : Nat) (v : Value) (h : t ≠ d) : upd V d v t = V t := by simp [upd, h]
theorem lk_same (env : Env) (d : Nat) (s : Slot) : lk ((d, s) :: env) d = some s := by simp [lk]
theorem lk_other (env : Env) (d t : Nat) (s : Slot) (h : t ≠ d) : lk ((d, s) :: env) t = lk env t := by
  simp only [lk]; rw [if_neg (fun e => h e.symm)]

def Refs (X X' : Cx) : Prop := ∀ u k q, X.old u k → X'.old u k ∧ (X'.node u k q → X.node u k q ∧ ∀ b v, X.kap b = some (u, q, v) → X'.kap b = some (u, q, v))

theorem Refs.trans {X Y Z : Cx} (h : Refs X Y) (g : Refs Y Z) : Refs X Z := fun u k q ho => by
  obtain ⟨h1, h2⟩ := h u k q ho
  obtain ⟨g1, g2⟩ := g u k q h1
  exact ⟨g1, fun hn => ⟨(h2 (g2 hn).1).1, fun b v hk => (g2 hn).2 b v ((h2 (g2 hn).1).2 b v hk)⟩⟩

/-- A slot takes data: no handle that was good turns bad. -/
theorem refs_val {C : Ctx} {env : Env} {w w' : World} {κ : Kap} (d k : Nat) (x : SV) (hx : ∀ t, x ≠ .own t) (hk : verOf (lk env d) ≤ k) : Refs (cx C env w κ) (cx C ((d, ⟨k, x⟩) :: env) w' κ) := by
  intro u j q ho
  obtain ⟨y, hy, hj⟩ := ho
  by_cases e : u = d
  · subst e
    rw [hy] at hk
    refine ⟨⟨_, lk_same _ _ _, Nat.le_trans hj hk⟩, fun hn => ?_⟩
    obtain ⟨T0, n, h1, _⟩ := hn
    rw [lk_same] at h1
    simp at h1
    exact absurd h1.2 (hx T0)
  · refine ⟨⟨y, by rw [lk_other _ _ _ _ e]; exact hy, hj⟩, fun hn => ?_⟩
    obtain ⟨T0, n, h1, h2⟩ := hn
    rw [lk_other _ _ _ _ e] at h1
    exact ⟨⟨T0, n, h1, h2⟩, fun _ _ h => h⟩

/-- A slot takes a new tree, under a new version. -/
theorem refs_new {C : Ctx} {env : Env} {w w' : World} {κ κ' : Kap} (d k : Nat) (x : SV) (hk : verOf (lk env d) < k)
    (hκ : ∀ b u q v, u ≠ d → κ b = some (u, q, v) → (∃ k T0 n, lk env u = some ⟨k, .own T0⟩ ∧ T.get q T0 = some n ∧ n.isNode = true) → κ' b = some (u, q, v)) :
    Refs (cx C env w κ) (cx C ((d, ⟨k, x⟩) :: env) w' κ') := by
  intro u j q ho
  obtain ⟨y, hy, hj⟩ := ho
  by_cases e : u = d
  · subst e
    rw [hy] at hk
    simp only [verOf] at hk
    refine ⟨⟨_, lk_same _ _ _, by show j ≤ k; omega⟩, fun hn => ?_⟩
    obtain ⟨T0, n, h1, _⟩ := hn
    rw [lk_same] at h1
    simp at h1
    omega
  · refine ⟨⟨y, by rw [lk_other _ _ _ _ e]; exact hy, hj⟩, fun hn => ?_⟩
    obtain ⟨T0, n, h1, h2⟩ := hn
    rw [lk_other _ _ _ _ e] at h1
    exact ⟨⟨T0, n, h1, h2⟩, fun b v h => hκ b u q v e h ⟨j, T0, n, h1, h2⟩⟩

/-- A slot's tree turns, its version stays: no new block comes into being in it. -/
theorem refs_same {C : Ctx} {env : Env} {w w' : World} {κ κ' : Kap} (d k : Nat) (T0 T1 : T) (hd : lk env d = some ⟨k, .own T0⟩)
    (hn : ∀ q n, T.get q T1 = some n → n.isNode = true → (∃ n0, T.get q T0 = some n0 ∧ n0.isNode = true) ∧ ∀ b v, κ b = some (d, q, v) → κ' b = some (d, q, v))
    (hκ : ∀ b u q v, u ≠ d → κ b = some (u, q, v) → κ' b = some (u, q, v)) :
    Refs (cx C env w κ) (cx C ((d, ⟨k, .own T1⟩) :: env) w' κ') := by
  intro u j q ho
  obtain ⟨y, hy, hj⟩ := ho
  by_cases e : u = d
  · subst e
    rw [hd] at hy
    simp at hy; subst hy
    refine ⟨⟨_, lk_same _ _ _, hj⟩, fun h => ?_⟩
    obtain ⟨T2, n, h1, h2, h3⟩ := h
    rw [lk_same] at h1
    simp at h1
    obtain ⟨rfl, rfl⟩ := h1
    obtain ⟨⟨n0, h4, h5⟩, h6⟩ := hn q n h2 h3
    exact ⟨⟨T0, n0, hd, h4, h5⟩, h6⟩
  · refine ⟨⟨y, by rw [lk_other _ _ _ _ e]; exact hy, hj⟩, fun h => ?_⟩
    obtain ⟨T2, n, h1, h2⟩ := h
    rw [lk_other _ _ _ _ e] at h1
    exact ⟨⟨T2, n, h1, h2⟩, fun b v h => hκ b u q v e h⟩

theorem VR_carry {X X' : Cx} {s s' : Nat} {t : T} {v : Value} (c : Carry X X' s s' [] []) (h : VR X s t v) : VR X' s' t v :=
  let ⟨cs, h1, h2⟩ := h
  ⟨cs, h1, CR_carry X X' s s' t [] [] cs c h2⟩

theorem VR_noOwn {X X' : Cx} {s s' : Nat} {t : T} {v : Value} (hsz : X'.sz = X.sz) (hF : ∀ b, X.F b → X'.F b ∧ X'.w.heap[b]? = X.w.heap[b]?) (hr : Refs X X') (hn : t.noOwn = true) (h : VR X s t v) : VR X' s' t v :=
  let ⟨cs, h1, h2⟩ := h
  ⟨cs, h1, CR_noOwn X X' s s' hsz hF hr t [] [] cs hn h2⟩

theorem VR_pure {X X' : Cx} {s s' : Nat} {t : T} {v : Value} (hsz : X'.sz = X.sz) (hF : ∀ b, X.F b → X'.F b ∧ X'.w.heap[b]? = X.w.heap[b]?) (hn : t.pure = true) (h : VR X s t v) : VR X' s' t v :=
  let ⟨cs, h1, h2⟩ := h
  ⟨cs, h1, CR_pure X X' s s' hsz hF t [] [] cs hn h2⟩

/-- The world grows: nothing that is there turns. -/
theorem Inv.ext {C : Ctx} {env : Env} {V : Nat → Value} {w w' : World} {κ : Kap} (h : Inv C env V w κ) (h1 : w'.os = w.os) (h2 : w'.tape = w.tape) (h3 : w'.output = w.output)
    (h4 : w.heap.size ≤ w'.heap.size) (h5 : ∀ b, b < w.heap.size → w'.heap[b]? = w.heap[b]?) : Inv C env V w' κ := by
  have hF : ∀ b, C.F b → w'.heap[b]? = w.heap[b]? := fun b hb => h5 b (Nat.lt_of_lt_of_le hb.1 h.size)
  have hr : Refs (cx C env w κ) (cx C env w' κ) := fun u k q ho => ⟨ho, fun hn => ⟨hn, fun _ _ h => h⟩⟩
  have hc : ∀ t, Carry (cx C env w κ) (cx C env w' κ) t t [] [] := fun t =>
    ⟨rfl, fun b hb => ⟨hb, hF b hb⟩, fun b q v hk => ⟨hk, h5 b (h.col b _ _ _ hk).1⟩, hr⟩
  exact ⟨h1.trans h.os, h2.trans h.tape, h3.trans h.output, Nat.le_trans h.size h4, fun b hb => (hF b hb).trans (h.frozen b hb),
    fun b s p v hk => ⟨Nat.lt_of_lt_of_le (h.col b s p v hk).1 h4, (h.col b s p v hk).2⟩, h.inj,
    fun t k x hx => ⟨(h.val t k x hx).1, VR_carry (hc t) (h.val t k x hx).2⟩, fun t k x hx => ⟨(h.own t k x hx).1, VR_carry (hc t) (h.own t k x hx).2⟩, h.und⟩

/-- A slot takes data. -/
theorem Inv.bind {C : Ctx} {env : Env} {V : Nat → Value} {w : World} {κ : Kap} (h : Inv C env V w κ) (d k : Nat) (x : T) (v : Value) (hk : verOf (lk env d) ≤ k) (hn : x.noOwn = true)
    (s0 : Nat) (hv : VR (cx C env w κ) s0 x v) : Inv C ((d, ⟨k, .val x⟩) :: env) (upd V d v) w κ := by
  have hr : Refs (cx C env w κ) (cx C ((d, ⟨k, .val x⟩) :: env) w κ) := refs_val d k _ (fun _ e => by cases e) hk
  have hc : ∀ t, Carry (cx C env w κ) (cx C ((d, ⟨k, .val x⟩) :: env) w κ) t t [] [] := fun t =>
    ⟨rfl, fun b hb => ⟨hb, rfl⟩, fun b q v hk => ⟨hk, rfl⟩, hr⟩
  refine ⟨h.os, h.tape, h.output, h.size, h.frozen, h.col, h.inj, fun t k' y hy => ?_, fun t k' y hy => ?_, fun t k' hy => ?_⟩
  · by_cases e : t = d
    · subst e
      rw [lk_same] at hy
      simp at hy
      obtain ⟨_, rfl⟩ := hy
      exact ⟨hn, by rw [upd_same]; exact VR_noOwn (X := cx C env w κ) rfl (fun b hb => ⟨hb, rfl⟩) hr hn hv⟩
    · rw [lk_other _ _ _ _ e] at hy
      exact ⟨(h.val t k' y hy).1, by rw [upd_other _ _ _ _ e]; exact VR_carry (hc t) (h.val t k' y hy).2⟩
  · by_cases e : t = d
    · subst e; rw [lk_same] at hy; simp at hy
    · rw [lk_other _ _ _ _ e] at hy
      exact ⟨(h.own t k' y hy).1, by rw [upd_other _ _ _ _ e]; exact VR_carry (hc t) (h.own t k' y hy).2⟩
  · by_cases e : t = d
    · subst e; rw [lk_same] at hy; simp at hy
    · rw [lk_other _ _ _ _ e] at hy
      rw [upd_other _ _ _ _ e]
      exact h.und t k' hy

/-- A slot takes nothing. -/
theorem Inv.bindUndef {C : Ctx} {env : Env} {V : Nat → Value} {w : World} {κ : Kap} (h : Inv C env V w κ) (d k : Nat) (hk : verOf (lk env d) ≤ k) :
    Inv C ((d, ⟨k, .undef⟩) :: env) (upd V d undef) w κ := by
  have hr : Refs (cx C env w κ) (cx C ((d, ⟨k, .undef⟩) :: env) w κ) := refs_val d k _ (fun _ e => by cases e) hk
  have hc : ∀ t, Carry (cx C env w κ) (cx C ((d, ⟨k, .undef⟩) :: env) w κ) t t [] [] := fun t =>
    ⟨rfl, fun b hb => ⟨hb, rfl⟩, fun b q v hk => ⟨hk, rfl⟩, hr⟩
  refine ⟨h.os, h.tape, h.output, h.size, h.frozen, h.col, h.inj, fun t k' y hy => ?_, fun t k' y hy => ?_, fun t k' hy => ?_⟩
  · by_cases e : t = d
    · subst e; rw [lk_same] at hy; simp at hy
    · rw [lk_other _ _ _ _ e] at hy
      exact ⟨(h.val t k' y hy).1, by rw [upd_other _ _ _ _ e]; exact VR_carry (hc t) (h.val t k' y hy).2⟩
  · by_cases e : t = d
    · subst e; rw [lk_same] at hy; simp at hy
    · rw [lk_other _ _ _ _ e] at hy
      exact ⟨(h.own t k' y hy).1, by rw [upd_other _ _ _ _ e]; exact VR_carry (hc t) (h.own t k' y hy).2⟩
  · by_cases e : t = d
    · subst e; rw [upd_same]
    · rw [lk_other _ _ _ _ e] at hy
      rw [upd_other _ _ _ _ e]
      exact h.und t k' hy

theorem VR_any (X : Cx) (s : Nat) (v : Value) : VR X s .any v := ⟨[v], rfl, by simp only [CR]; exact ⟨v, rfl⟩⟩

/-- Slots whose trees are gone. -/
def kill (srcs : List Nat) (env : Env) : Env := srcs.map (fun s => (s, ⟨verOf (lk env s), .val .any⟩)) ++ env

theorem lk_append_not (l env : Env) (t : Nat) (h : ∀ x ∈ l, x.1 ≠ t) : lk (l ++ env) t = lk env t := by
  induction l with
  | nil => rfl
  | cons x l ih =>
    obtain ⟨u, s⟩ := x
    have h1 : u ≠ t := h (u, s) (by simp)
    simp only [List.cons_append, lk]
    rw [if_neg h1, ih (fun x hx => h x (by simp [hx]))]

theorem lk_kill_not (srcs : List Nat) (env : Env) (t : Nat) (h : t ∉ srcs) : lk (kill srcs env) t = lk env t :=
  lk_append_not _ _ _ (fun x hx => by
    rw [List.mem_map] at hx
    obtain ⟨s, hs, rfl⟩ := hx
    exact fun e => h (e ▸ hs))

theorem lk_kill_mem (srcs : List Nat) (env : Env) (t : Nat) (h : t ∈ srcs) : lk (kill srcs env) t = some ⟨verOf (lk env t), .val .any⟩ := by
  have : ∀ (l : List Nat), t ∈ l → lk (l.map (fun s => (s, (⟨verOf (lk env s), .val .any⟩ : Slot))) ++ env) t = some ⟨verOf (lk env t), .val .any⟩ := by
    intro l
    induction l with
    | nil => intro h; simp at h
    | cons x l ih =>
      intro h
      simp only [List.map_cons, List.cons_append, lk]
      by_cases e : x = t
      · subst e; simp
      · rw [if_neg e]
        exact ih ((List.mem_cons.1 h).resolve_left (fun h => e h.symm))
  exact this srcs h

theorem verOf_kill (srcs : List Nat) (env : Env) (t : Nat) : verOf (lk (kill srcs env) t) = verOf (lk env t) := by
  by_cases h : t ∈ srcs
  · rw [lk_kill_mem _ _ _ h]; rfl
  · rw [lk_kill_not _ _ _ h]

theorem refs_kill {C : Ctx} {env : Env} {w w' : World} {κ κ' : Kap} (srcs : List Nat) (hκ : ∀ b u q v, u ∉ srcs → κ b = some (u, q, v) → κ' b = some (u, q, v)) :
    Refs (cx C env w κ) (cx C (kill srcs env) w' κ') := by
  intro u j q ho
  obtain ⟨y, hy, hj⟩ := ho
  by_cases e : u ∈ srcs
  · refine ⟨⟨_, lk_kill_mem _ _ _ e, by rw [hy]; exact hj⟩, fun hn => ?_⟩
    obtain ⟨T0, n, h1, _⟩ := hn
    rw [lk_kill_mem _ _ _ e] at h1
    simp at h1
  · refine ⟨⟨y, by rw [lk_kill_not _ _ _ e]; exact hy, hj⟩, fun hn => ?_⟩
    obtain ⟨T0, n, h1, h2⟩ := hn
    rw [lk_kill_not _ _ _ e] at h1
    exact ⟨⟨T0, n, h1, h2⟩, fun b v h => hκ b u q v e h⟩

/-- The colours behind a new tree at d: its own; else the elder ones, but those of d and of the slots that are gone. -/
def mix (κ : Kap) (srcs : List Nat) (d : Nat) (κd : Nat → Option (List Nat × Value)) : Kap := fun b =>
  match κd b with
  | some (p, v) => some (d, p, v)
  | none => match κ b with
    | some (s, p, v) => if s = d ∨ s ∈ srcs then none else some (s, p, v)
    | none => none

/-- ████ A slot takes a new tree, made of new blocks and of blocks of the slots that are gone. -/
theorem Inv.fresh {C : Ctx} {env : Env} {V : Nat → Value} {w : World} {κ : Kap} (h : Inv C env V w κ) (srcs : List Nat) (d : Nat) (x : T) (cs : List Value) (w' : World) (κd : Nat → Option (List Nat × Value))
    (hos : w'.os = w.os) (htape : w'.tape = w.tape) (hout : w'.output = w.output) (hsize : w.heap.size ≤ w'.heap.size)
    (hfrozen : ∀ b, C.F b → w'.heap[b]? = w.heap[b]?) (hkept : ∀ b s p v, κ b = some (s, p, v) → s ∉ srcs → s ≠ d → w'.heap[b]? = w.heap[b]?)
    (hcol : ∀ b p v, κd b = some (p, v) → b < w'.heap.size ∧ ¬ C.F b ∧ ∀ s p v, κ b = some (s, p, v) → s ∈ srcs ∨ s = d)
    (hinj : ∀ b b' p v v', κd b = some (p, v) → κd b' = some (p, v') → b = b') (hr : x.refFree = true)
    (hx : ∀ X' : Cx, X'.sz = C.P.cellsOf → X'.w = w' → X'.F = C.F → (∀ b p v, κd b = some (p, v) → X'.kap b = some (d, p, v)) → CR X' d [] x cs) :
    ∃ κ', Inv C ((d, ⟨verOf (lk env d) + 1, .own x⟩) :: kill srcs env) (upd V d (mkv x cs)) w' κ' ∧ ∀ b u q v, u ≠ d → u ∉ srcs → κ b = some (u, q, v) → κ' b = some (u, q, v) := by
  have hmix : ∀ b u q v, u ≠ d → u ∉ srcs → κ b = some (u, q, v) → mix κ srcs d κd b = some (u, q, v) := by
    intro b u q v h1 h2 h3
    unfold mix
    cases hd : κd b with
    | some y =>
      obtain ⟨p, v'⟩ := y
      have := (hcol b p v' hd).2.2 u q v h3
      exact absurd this (by simp [h1, h2])
    | none => simp [h3, h1, h2]
  refine ⟨mix κ srcs d κd, ?_, hmix⟩
  have hinv : ∀ b s p v, mix κ srcs d κd b = some (s, p, v) → (s = d ∧ κd b = some (p, v)) ∨ (s ≠ d ∧ s ∉ srcs ∧ κ b = some (s, p, v) ∧ κd b = none) := by
    intro b s p v hm
    unfold mix at hm
    cases hd : κd b with
    | some y =>
      obtain ⟨p', v'⟩ := y
      simp only [hd, Option.some.injEq, Prod.mk.injEq] at hm
      obtain ⟨rfl, rfl, rfl⟩ := hm
      exact .inl ⟨rfl, rfl⟩
    | none =>
      cases hκb : κ b with
      | none => simp [hd, hκb] at hm
      | some y =>
        obtain ⟨s', p', v'⟩ := y
        simp only [hd, hκb] at hm
        split at hm
        · cases hm
        · rename_i hne
          simp only [Option.some.injEq, Prod.mk.injEq] at hm
          obtain ⟨rfl, rfl, rfl⟩ := hm
          exact .inr ⟨fun e => hne (.inl e), fun e => hne (.inr e), rfl, rfl⟩
  have hrefs : Refs (cx C env w κ) (cx C ((d, ⟨verOf (lk env d) + 1, .own x⟩) :: kill srcs env) w' (mix κ srcs d κd)) := by
    intro u j q ho
    obtain ⟨y, hy, hj⟩ := ho
    by_cases e : u = d
    · subst e
      refine ⟨⟨_, lk_same _ _ _, by rw [hy]; show j ≤ y.ver + 1; omega⟩, fun hn => ?_⟩
      obtain ⟨T0, n, h1, _⟩ := hn
      rw [lk_same] at h1
      simp only [Option.some.injEq, Slot.mk.injEq, hy, verOf] at h1
      omega
    · by_cases e2 : u ∈ srcs
      · refine ⟨⟨_, by rw [lk_other _ _ _ _ e]; exact lk_kill_mem _ _ _ e2, by rw [hy]; exact hj⟩, fun hn => ?_⟩
        obtain ⟨T0, n, h1, _⟩ := hn
        rw [lk_other _ _ _ _ e, lk_kill_mem _ _ _ e2] at h1
        simp at h1
      · refine ⟨⟨y, by rw [lk_other _ _ _ _ e, lk_kill_not _ _ _ e2]; exact hy, hj⟩, fun hn => ?_⟩
        obtain ⟨T0, n, h1, h2⟩ := hn
        rw [lk_other _ _ _ _ e, lk_kill_not _ _ _ e2] at h1
        exact ⟨⟨T0, n, h1, h2⟩, fun b v hk => hmix b u q v e e2 hk⟩
  have hc : ∀ t, t ≠ d → t ∉ srcs → Carry (cx C env w κ) (cx C ((d, ⟨verOf (lk env d) + 1, .own x⟩) :: kill srcs env) w' (mix κ srcs d κd)) t t [] [] := fun t h1 h2 =>
    ⟨rfl, fun b hb => ⟨hb, hfrozen b hb⟩, fun b q v hk => ⟨hmix b t _ v h1 h2 hk, hkept b t _ v hk h2 h1⟩, hrefs⟩
  refine ⟨hos.trans h.os, htape.trans h.tape, hout.trans h.output, Nat.le_trans h.size hsize, fun b hb => (hfrozen b hb).trans (h.frozen b hb), ?_, ?_, fun t k' y hy => ?_, fun t k' y hy => ?_, fun t k' hy => ?_⟩
  · intro b s p v hm
    rcases hinv b s p v hm with ⟨_, hd⟩ | ⟨_, _, hk, _⟩
    · exact ⟨(hcol b p v hd).1, (hcol b p v hd).2.1⟩
    · exact ⟨Nat.lt_of_lt_of_le (h.col b s p v hk).1 hsize, (h.col b s p v hk).2⟩
  · intro b b' s p v v' hm hm'
    rcases hinv b s p v hm with ⟨e, hd⟩ | ⟨e, _, hk, _⟩
    · rcases hinv b' s p v' hm' with ⟨_, hd'⟩ | ⟨e', _⟩
      · exact hinj b b' p v v' hd hd'
      · exact absurd e e'
    · rcases hinv b' s p v' hm' with ⟨e', _⟩ | ⟨_, _, hk', _⟩
      · exact absurd e' e
      · exact h.inj b b' s p v v' hk hk'
  · by_cases e : t = d
    · subst e; rw [lk_same] at hy; simp at hy
    · rw [lk_other _ _ _ _ e] at hy
      rw [upd_other _ _ _ _ e]
      by_cases e2 : t ∈ srcs
      · rw [lk_kill_mem _ _ _ e2] at hy
        simp at hy
        obtain ⟨_, rfl⟩ := hy
        exact ⟨rfl, VR_any _ _ _⟩
      · rw [lk_kill_not _ _ _ e2] at hy
        exact ⟨(h.val t k' y hy).1, VR_carry (hc t e e2) (h.val t k' y hy).2⟩
  · by_cases e : t = d
    · subst e
      rw [lk_same] at hy
      simp at hy
      obtain ⟨_, rfl⟩ := hy
      refine ⟨hr, cs, by rw [upd_same], hx _ rfl rfl rfl (fun b p v hd => ?_)⟩
      show mix κ srcs t κd b = _
      simp [mix, hd]
    · rw [lk_other _ _ _ _ e] at hy
      rw [upd_other _ _ _ _ e]
      by_cases e2 : t ∈ srcs
      · rw [lk_kill_mem _ _ _ e2] at hy
        simp at hy
      · rw [lk_kill_not _ _ _ e2] at hy
        exact ⟨(h.own t k' y hy).1, VR_carry (hc t e e2) (h.own t k' y hy).2⟩
  · by_cases e : t = d
    · subst e; rw [lk_same] at hy; simp at hy
    · rw [lk_other _ _ _ _ e] at hy
      rw [upd_other _ _ _ _ e]
      by_cases e2 : t ∈ srcs
      · rw [lk_kill_mem _ _ _ e2] at hy
        simp at hy
      · rw [lk_kill_not _ _ _ e2] at hy
        exact h.und t k' hy

end Go.Proofs.Ytjkhggbjkkobaaa

/-
  The generic part, nineteenth text: what a function does to trees; calls.
-/
import Derived.Test.YtjkhggbjkkobaaaMetaR
namespace Go.Proofs.Ytjkhggbjkkobaaa
open Go.RowKit

/-- A call begins: what is not handed over is frozen. -/
def argCx (P : Program) (w : World) (κ : Kap) : Cx where
  sz := P.cellsOf
  w := w
  F := fun b => b < w.heap.size ∧ κ b = none
  kap := κ
  old := fun _ _ => False
  node := fun _ _ _ => False

/-- .. and ends: what comes back is nobody else's. -/
def resCx (P : Program) (w : World) (κ : Kap) : Cx where
  sz := P.cellsOf
  w := w
  F := fun _ => False
  kap := κ
  old := fun _ _ => False
  node := fun _ _ _ => False

structure Back (P : Program) (w : World) (κ : Kap) (r : T) (v : Value) (w' : World) (κ' : Kap) : Prop where
  os : w'.os = w.os
  tape : w'.tape = w.tape
  output : w'.output = w.output
  size : w.heap.size ≤ w'.heap.size
  kept : ∀ b, b < w.heap.size → κ b = none → w'.heap[b]? = w.heap[b]?
  col : ∀ b s p v, κ' b = some (s, p, v) → b < w'.heap.size ∧ (w.heap.size ≤ b ∨ κ b ≠ none)
  inj : ∀ b b' s p v v', κ' b = some (s, p, v) → κ' b' = some (s, p, v') → b = b'
  refFree : r.refFree = true
  res : VR (resCx P w' κ') 0 r v

/-- ████ The function f, called with these trees, gives back this tree, and turns nothing that was not handed over to it. -/
def AFo (P : Program) (f : FuncId) (args : List T) (r : T) : Prop :=
  (∃ fn, P.funcs[f]? = some fn ∧ (fn.name == "runtime.NumGoroutine") = false ∧ fn.body.isNone = false) ∧
  ∀ (w : World) (vs : List Value) (κ : Kap), (∀ b s p v, κ b = some (s, p, v) → b < w.heap.size) → (∀ b b' s p v v', κ b = some (s, p, v) → κ b' = some (s, p, v') → b = b') →
    vs.length = args.length → (∀ (j : Nat) (t : T) (v : Value), args[j]? = some t → vs[j]? = some v → t.refFree = true ∧ VR (argCx P w κ) j t v) →
    Calls P f vs.toArray w (fun e w' => ∃ v κ', e = .returned v ∧ Back P w κ r v w' κ')

/-- Blocks stay blocks, sizes stay. -/
def Shape (A A' : T) : Prop := (A.isNode = true ∧ A'.isNode = true) ∨
  ∃ l l', A = .agg l ∧ A' = .agg l' ∧ (∀ j, T.sizeL (l'.take j) = T.sizeL (l.take j)) ∧ ∀ (j : Nat) (t : T), l[j]? = some t → t.isNode = true → ∃ t', l'[j]? = some t' ∧ t'.isNode = true

/-- ████ The function f, called with the tree A and a number, gives back a number and leaves A' where A was: the very blocks, written over. -/
def AFio (P : Program) (f : FuncId) (args : List T) (r : T) : Prop :=
  (∃ fn, P.funcs[f]? = some fn ∧ (fn.name == "runtime.NumGoroutine") = false ∧ fn.body.isNone = false) ∧
  ∃ A ku nu k1 n1 A', args = [A, .int ku nu] ∧ r = .tup [.int k1 n1, A'] ∧ A'.refFree = true ∧ Shape A A' ∧
  ∀ (w : World) (v : Value) (κ : Kap), (∀ b s p v, κ b = some (s, p, v) → b < w.heap.size) → (∀ b b' s p v v', κ b = some (s, p, v) → κ b' = some (s, p, v') → b = b') →
    A.refFree = true → VR (argCx P w κ) 0 A v →
    Calls P f #[v, .int ku nu] w (fun e w' => e = .returned (.int k1 n1) ∧ w'.os = w.os ∧ w'.tape = w.tape ∧ w'.output = w.output ∧ w.heap.size ≤ w'.heap.size ∧
      (∀ b, b < w.heap.size → κ b = none → w'.heap[b]? = w.heap[b]?) ∧ VR (resCx P w' κ) 0 A' v)

def AFn (P : Program) (f : FuncId) (args : List T) (r : T) : Prop := if f < 1000000 then AFo P f args r else AFio P (f - 1000000) args r

theorem AFn_lt {P : Program} {f : FuncId} {args : List T} {r : T} (h : f < 1000000) : AFn P f args r ↔ AFo P f args r := by rw [AFn, if_pos h]
theorem AFn_io {P : Program} {f : FuncId} {args : List T} {r : T} : AFn P (1000000 + f) args r ↔ AFio P f args r := by
  rw [AFn, if_neg (Nat.not_lt_of_le (Nat.le_add_right 1000000 f)), show 1000000 + f - 1000000 = f from Nat.add_sub_cancel_left 1000000 f]

mutual
theorem pure_refFree : ∀ (t : T), t.pure = true → t.refFree = true
  | .int .., _ => rfl
  | .bool .., _ => rfl
  | .str .., _ => rfl
  | .any, _ => rfl
  | .nil, _ => rfl
  | .sl true _ _, h => by simp [T.pure] at h
  | .sl false _ l, h => by simpa [T.refFree] using pureL_refFree l (by simpa [T.pure] using h)
  | .box .., h => by simp [T.pure] at h
  | .fptr t, h => by simpa [T.refFree] using pure_refFree t (by simpa [T.pure] using h)
  | .agg l, h => by simpa [T.refFree] using pureL_refFree l (by simpa [T.pure] using h)
  | .tup l, h => by simpa [T.refFree] using pureL_refFree l (by simpa [T.pure] using h)
  | .fn _ l, h => by simpa [T.refFree] using pureL_refFree l (by simpa [T.pure] using h)
  | .ref .., h => by simp [T.pure] at h
  | .addr .., h => by simp [T.pure] at h
theorem pureL_refFree : ∀ (l : List T), T.pureL l = true → T.refFreeL l = true
  | [], _ => rfl
  | t :: l, h => by
    simp only [T.pureL, Bool.and_eq_true] at h
    simp [T.refFreeL, pure_refFree t h.1, pureL_refFree l h.2]
end

section
variable {C : Ctx} {env : Env} {V : Nat → Value} {w : World} {κ : Kap} {a : Act} {AF : FuncId → List T → T → Prop} {U : List (Nat × Slot)} {R : List Nat} {n : Nat}
variable {tt : Tt} {P : Program}

/-- What a callee sees of a caller's data: frozen. -/
def seen (C : Ctx) (w : World) : Cx := argCx C.P w (fun _ => none)

theorem freeze_seen (hI : Inv C env V w κ) {s : Nat} {p : List Nat} {t : T} {cs : List Value} (hr : t.refFree = true) (h : CR (cx C env w κ) s p t cs) (s' : Nat) (p' : List Nat) :
    CR (seen C w) s' p' t.freeze cs ∧ t.freeze.pure = true :=
  CR_freeze (X := cx C env w κ) (X' := seen C w) rfl (fun _ _ => rfl) (fun _ hb => ⟨Nat.lt_of_lt_of_le hb.1 hI.size, rfl⟩) t p p' cs hr (fun _ _ _ hk => ⟨(hI.col _ _ _ _ hk).1, rfl⟩) h

mutual
theorem resolve_CR (hI : Inv C env V w κ) : ∀ (v : T) (s : Nat) (p : List Nat) (cs : List Value) (c : T → Rd) (R : List Nat), CR (cx C env w κ) s p v cs → (resolve v c).sat AF env U R →
    ∃ v' R', (c v').sat AF env U R' ∧ v'.pure = true ∧ v'.isAgg = v.isAgg ∧ v'.size = v.size ∧ ∀ s' p', CR (seen C w) s' p' v' cs
  | .ref s k q, s0, p0, cs, c, R, h, hs => by
    simp only [resolve] at hs
    obtain ⟨T0, nd, R', hl, hg, hn, h1⟩ := rdn_sat hs
    obtain ⟨b, cap, cur, e1, e2, e3, e4⟩ := hI.ref_eq hl hg hn h
    have hr := refFree_get q T0 nd hg (hI.own s k T0 hl).1
    have hf := freeze_seen hI hr e2
    exact ⟨nd.freeze, R', h1, (hf 0 []).2, by rw [isAgg_freeze, isAgg_of_isNode hn]; rfl, by rw [size_freeze, size_of_isNode hn]; rfl, fun s' p' => (hf s' p').1⟩
  | .addr s k q off sub, s0, p0, cs, c, R, h, hs => by
    simp only [resolve] at hs
    split at hs
    · rename_i hsub
      obtain ⟨T0, nd, R', hl, hg, hn, h1⟩ := rdn_sat hs
      simp only [Rd.sat] at h1
      obtain ⟨rfl, h2⟩ := h1
      obtain ⟨b, cap, cur, e1, e2, e3, e4⟩ := hI.addr_eq hl hg hn h
      cases nd <;> try (simp [T.isNode] at hn; done)
      case sl => simp [Rd.sat] at h2
      case box e t =>
        have hr := refFree_get q T0 _ hg (hI.own s k T0 hl).1
        have hf := freeze_seen hI hr e2
        simp only [headOf] at hf
        rw [e1]
        exact ⟨_, R', h2, (hf 0 []).2, rfl, rfl, fun s' p' => (hf s' p').1⟩
    · simp [Rd.sat] at hs
  | .agg l, s0, p0, cs, c, R, h, hs => by
    simp only [resolve] at hs
    simp only [CR] at h
    obtain ⟨l', R', h1, h2, h3, h4⟩ := resolveL_CR hI l s0 p0 0 cs _ R h hs
    exact ⟨.agg l', R', h1, by simpa [T.pure] using h2, rfl, by simpa [T.size] using h3, fun s' p' => by simp only [CR]; exact h4 s' p' 0⟩
  | .fn f l, s0, p0, cs, c, R, h, hs => by
    simp only [resolve] at hs
    simp only [CR] at h
    obtain ⟨vs, hcs, hC⟩ := h
    obtain ⟨l', R', h1, h2, h4⟩ := resolveL_CRT hI l s0 p0 0 vs _ R hC hs
    exact ⟨.fn f l', R', h1, by simpa [T.pure] using h2, rfl, rfl, fun s' p' => by simp only [CR]; exact ⟨vs, hcs, h4 s' p' 0⟩⟩
  | .sl false e l, s0, p0, cs, c, R, h, hs => by
    simp only [resolve] at hs
    have h' := h
    simp only [CR] at h'
    obtain ⟨_, _, _, _, _, _, hp, _⟩ := h'
    refine ⟨_, R, hs, by simpa [T.pure] using hp, rfl, rfl, fun s' p' => ?_⟩
    exact CR_pureE (X := cx C env w κ) (X' := seen C w) rfl (fun _ _ => rfl) (fun b hb => ⟨Nat.lt_of_lt_of_le hb.1 hI.size, rfl⟩) (.sl false e l) p0 p' cs (by simpa [T.pure] using hp) h
  | .fptr t, s0, p0, cs, c, R, h, hs => by
    simp only [resolve] at hs
    have h' := h
    simp only [CR] at h'
    obtain ⟨_, _, _, _, _, _, _, _, _, hp, _⟩ := h'
    refine ⟨_, R, hs, by simpa [T.pure] using hp, rfl, rfl, fun s' p' => ?_⟩
    exact CR_pureE (X := cx C env w κ) (X' := seen C w) rfl (fun _ _ => rfl) (fun b hb => ⟨Nat.lt_of_lt_of_le hb.1 hI.size, rfl⟩) (.fptr t) p0 p' cs (by simpa [T.pure] using hp) h
  | .int k m, s0, p0, cs, c, R, h, hs => ⟨_, R, hs, rfl, rfl, rfl, fun s' p' => by simpa only [CR] using h⟩
  | .bool b, s0, p0, cs, c, R, h, hs => ⟨_, R, hs, rfl, rfl, rfl, fun s' p' => by simpa only [CR] using h⟩
  | .str b, s0, p0, cs, c, R, h, hs => ⟨_, R, hs, rfl, rfl, rfl, fun s' p' => by simpa only [CR] using h⟩
  | .nil, s0, p0, cs, c, R, h, hs => ⟨_, R, hs, rfl, rfl, rfl, fun s' p' => by simpa only [CR] using h⟩
  | .any, s0, p0, cs, c, R, h, hs => by simp [resolve, Rd.sat] at hs
  | .sl true e l, s0, p0, cs, c, R, h, hs => by simp [resolve, Rd.sat] at hs
  | .box e t, s0, p0, cs, c, R, h, hs => by simp [resolve, Rd.sat] at hs
  | .tup l, s0, p0, cs, c, R, h, hs => by simp [resolve, Rd.sat] at hs
theorem resolveL_CR (hI : Inv C env V w κ) : ∀ (l : List T) (s : Nat) (p : List Nat) (i : Nat) (cs : List Value) (c : List T → Rd) (R : List Nat), CRL (cx C env w κ) s p i l cs → (resolveL l c).sat AF env U R →
    ∃ l' R', (c l').sat AF env U R' ∧ T.pureL l' = true ∧ T.sizeL l' = T.sizeL l ∧ ∀ s' p' i', CRL (seen C w) s' p' i' l' cs
  | [], s, p, i, cs, c, R, h, hs => ⟨[], R, hs, rfl, rfl, fun s' p' i' => by simpa only [CRL] using h⟩
  | t :: l, s, p, i, cs, c, R, h, hs => by
    simp only [resolveL] at hs
    simp only [CRL] at h
    obtain ⟨t', R1, h1, h2, h3, h4, h5⟩ := resolve_CR hI t s _ _ _ R h.1 hs
    obtain ⟨l', R2, g1, g2, g3, g4⟩ := resolveL_CR hI l s p (i + 1) _ _ R1 h.2 h1
    exact ⟨t' :: l', R2, g1, by simp [T.pureL, h2, g2], by simp [T.sizeL, h4, g3], fun s' p' i' => by
      simp only [CRL, h4]; exact ⟨h5 s' _, g4 s' p' (i' + 1)⟩⟩
theorem resolveL_CRT (hI : Inv C env V w κ) : ∀ (l : List T) (s : Nat) (p : List Nat) (i : Nat) (vs : List Value) (c : List T → Rd) (R : List Nat), CRT (cx C env w κ) s p i l vs → (resolveL l c).sat AF env U R →
    ∃ l' R', (c l').sat AF env U R' ∧ T.pureL l' = true ∧ ∀ s' p' i', CRT (seen C w) s' p' i' l' vs
  | [], s, p, i, cs, c, R, h, hs => ⟨[], R, hs, rfl, fun s' p' i' => by simpa only [CRT] using h⟩
  | t :: l, s, p, i, vs, c, R, h, hs => by
    simp only [resolveL] at hs
    simp only [CRT] at h
    obtain ⟨⟨v, cs, e1, e2, e3⟩, h'⟩ := h
    obtain ⟨t', R1, h1, h2, h3, h4, h5⟩ := resolve_CR hI t s _ _ _ R e3 hs
    obtain ⟨l', R2, g1, g2, g4⟩ := resolveL_CRT hI l s p (i + 1) _ _ R1 h' h1
    exact ⟨t' :: l', R2, g1, by simp [T.pureL, h2, g2], fun s' p' i' => by
      simp only [CRT]; exact ⟨⟨v, cs, e1, by rw [e2]; exact mkv_of_isAgg h3.symm cs, h5 s' _⟩, g4 s' p' (i' + 1)⟩⟩
end

/-- A row of data, each frozen. -/
theorem resolveL_HV (hI : Inv C env V w κ) : ∀ (l : List T) (us : List Value) (c : List T → Rd) (R : List Nat), l.length = us.length → (∀ (j : Nat) (t : T) (u : Value), l[j]? = some t → us[j]? = some u → HV (cx C env w κ) t u) → (resolveL l c).sat AF env U R →
    ∃ l' R', (c l').sat AF env U R' ∧ l'.length = us.length ∧ ∀ (j : Nat) (t : T) (u : Value), l'[j]? = some t → us[j]? = some u → t.pure = true ∧ ∀ s', VR (seen C w) s' t u
  | [], us, c, R, hl, _, hs => ⟨[], R, hs, hl, fun j t u h => by simp at h⟩
  | t :: l, [], c, R, hl, _, hs => by simp at hl
  | t :: l, u :: us, c, R, hl, hh, hs => by
    simp only [resolveL] at hs
    obtain ⟨s0, cs, e1, e2⟩ := (hh 0 t u rfl rfl).cells
    obtain ⟨t', R1, h1, h2, h3, h4, h5⟩ := resolve_CR hI t s0 _ _ _ R e2 hs
    obtain ⟨l', R2, g1, g2, g3⟩ := resolveL_HV hI l us _ R1 (by simpa using hl) (fun j t u hj hu => hh (j + 1) t u (by simpa using hj) (by simpa using hu)) h1
    refine ⟨t' :: l', R2, g1, by simp [g2], fun j x y hx hy => ?_⟩
    cases j with
    | zero =>
      simp at hx hy; subst hx; subst hy
      exact ⟨h2, fun s' => ⟨cs, by rw [e1]; exact mkv_of_isAgg h3.symm cs, h5 s' []⟩⟩
    | succ j => exact g3 j x y (by simpa using hx) (by simpa using hy)

theorem run_callFunc {f : FuncId} {fn : Func} (hf : P.funcs[f]? = some fn) (h1 : (fn.name == "runtime.NumGoroutine") = false) (h2 : fn.body.isNone = false) (args : Array Value) (w : World) :
    (callFunc f args).run P w = .ok (.enter f args) w := by
  simp only [callFunc, Sem.run_bind, run_program, Result.andThen_ok, hf, h1, h2, Bool.false_eq_true, if_false]
  rfl

/-- Behind a call that was handed nothing. -/
theorem back_FR (hd : a.defers = []) (hn : a.tmps.size = n) (hI : Inv C env V w κ) (hV : ∀ t, t < 1000000 → V t = a.tmps.getD t undef) {d : Nat} (hdn : d < n) {r : T} {v : Value} {w' : World} {κ' : Kap}
    (hB : Back C.P w (fun _ => none) r v w' κ') : FR C n ((d, ⟨verOf (lk env d) + 1, mkSV r⟩) :: env) (a.put (some d) v) w' := by
  have hI' : Inv C env V w' κ := hI.ext hB.os hB.tape hB.output hB.size (fun b hb => hB.kept b hb rfl)
  have hVd : ∀ t, t < 1000000 → upd V d v t = if t = d then v else a.tmps.getD t undef := fun t ht => by
    by_cases e : t = d
    · simp [e, upd]
    · rw [upd_other _ _ _ _ e, if_neg e]; exact hV t ht
  obtain ⟨cs, e1, e2⟩ := hB.res
  by_cases hno : r.noOwn = true
  · have : mkSV r = .val r := by simp [mkSV, hno]
    rw [this]
    refine own_FR hd hn hdn (hI'.bind d _ r v (by omega) hno 0 ⟨cs, e1, ?_⟩) hVd
    exact CR_noOwn (resCx C.P w' κ') (cx C env w' κ) 0 0 rfl (fun b hb => hb.elim) (fun u k q ho => ho.elim) r [] [] cs hno e2
  · have : mkSV r = .own r := by simp [mkSV, hno]
    rw [this]
    obtain ⟨κ2, h2, _⟩ := hI'.fresh [] d r cs w' (fun b => match κ' b with | some (0, p, v) => some (p, v) | _ => none) rfl rfl rfl (Nat.le_refl _) (fun _ _ => rfl) (fun _ _ _ _ _ _ _ => rfl)
      (fun b p v hb => by
        cases hk : κ' b with
        | none => simp [hk] at hb
        | some y =>
          obtain ⟨s, q, u⟩ := y
          have hc := hB.col b s q u hk
          have hge : w.heap.size ≤ b := hc.2.resolve_right (by simp)
          refine ⟨hc.1, fun hF => by have := hF.1; have := hI.size; omega, fun s' p' v' hk' => ?_⟩
          have := (hI.col b _ _ _ hk').1
          omega)
      (fun b b' p v v' hb hb' => by
        cases hk : κ' b with
        | none => simp [hk] at hb
        | some y =>
          obtain ⟨s, q, u⟩ := y
          cases hk' : κ' b' with
          | none => simp [hk'] at hb'
          | some y' =>
            obtain ⟨s', q', u'⟩ := y'
            cases s with
            | succ s => simp [hk] at hb
            | zero =>
              cases s' with
              | succ s' => simp [hk'] at hb'
              | zero =>
                simp [hk] at hb
                simp [hk'] at hb'
                obtain ⟨rfl, _⟩ := hb
                obtain ⟨rfl, _⟩ := hb'
                exact hB.inj b b' _ _ _ _ hk hk') hB.refFree
      (fun X' h1 h2 h3 h4 => CR_carryF (X := resCx C.P w' κ') (s := 0) (p := []) h1 (fun b hb => hb.elim) (fun b q v hk => ⟨h4 b q v (by have hk' : κ' b = some (0, q, v) := hk; simp [hk']), by rw [h2]; rfl⟩) hB.refFree e2)
    rw [← e1] at h2
    exact own_FR hd hn hdn (by simpa [kill] using h2) hVd

theorem op_callA {f' : FuncId} (hf : f' < 1000000) (hd : a.defers = []) (hn : a.tmps.size = n) (hI : Inv C env V w κ) (hV : ∀ t, t < 1000000 → V t = a.tmps.getD t undef) {x : Operand} {caps' : List T} {args : Array Operand} {ty : Array TypeId} {o : Oper} (ho : o.op = .call { callee := .value x, args := args, argTypes := ty }) (hok : opOk n o = true)
    {d : Nat} (hdst : o.dst = some d) (hv : HV (cx C env w κ) (.fn f' caps') (a.eval x)) {R' : List Nat}
    (h2 : (rdvL args.toList fun vs => resolveL vs fun vs' => resolveL caps' fun cs => .rd d fun s => .call f' (vs' ++ cs) fun r => [(d, ⟨verOf s + 1, mkSV r⟩)]).sat (AFn C.P) env U R') {Q : Exit → Act → World → Prop} :
    o.wp C.P a w (fun a' w' => FR C n (U ++ env) a' w') Q := by
  obtain ⟨vs, R2, h3, hl, h4⟩ := rdvL_sat hI hV args.toList _ R' (fun y hy => opnd_ok hok (by simp [ho, Op.operands, Call.operands]; right; simpa using hy)) h2
  obtain ⟨vs', R3, h5, hl', h6⟩ := resolveL_HV hI vs (args.toList.map a.eval) _ R2 (by simp [hl]) (fun j t u hj hu => by
    obtain ⟨hjl, rfl⟩ := List.getElem?_eq_some_iff.1 hj
    obtain ⟨hju, rfl⟩ := List.getElem?_eq_some_iff.1 hu
    rw [List.getElem_map]
    exact h4 j hjl (by simpa using hju)) h3
  obtain ⟨s0, cc, e1, e2⟩ := hv.cells
  simp only [CR] at e2
  obtain ⟨us, rfl, hCT⟩ := e2
  simp only [mkv, List.headD] at e1
  obtain ⟨cs', R4, h7, h8, h9⟩ := resolveL_CRT hI caps' s0 [] 0 us _ R3 hCT h5
  simp only [Rd.sat] at h7
  obtain ⟨R5, ⟨r, hA, rfl, _⟩, _⟩ := h7
  obtain ⟨⟨fn, g1, g2, g3⟩, hcall⟩ := (AFn_lt hf).1 hA
  have hlen : us.length = cs'.length := by
    have key : ∀ (l : List T) (i : Nat) (us : List Value) (X : Cx) (s : Nat) (p : List Nat), CRT X s p i l us → us.length = l.length := by
      intro l
      induction l with
      | nil => intro i us X s p h; simp only [CRT] at h; subst h; rfl
      | cons t l ih =>
        intro i us X s p h
        simp only [CRT] at h
        obtain ⟨⟨v, cs, q1, _, _⟩, h2⟩ := h
        have := ih (i + 1) us.tail X s p h2
        cases us with
        | nil => simp at q1
        | cons u us => simpa using this
    exact key cs' 0 us (seen C w) 0 [] (h9 0 [] 0)
  have hcall' := hcall w ((args.toList.map a.eval) ++ us) (fun _ => none) (fun _ _ _ _ h => by cases h) (fun _ _ _ _ _ _ h => by cases h) (by simp only [List.length_append, hl', hlen]) (fun j t u hj hu => by
    by_cases hlt : j < vs'.length
    · rw [List.getElem?_append_left hlt] at hj
      rw [List.getElem?_append_left (by omega)] at hu
      obtain ⟨q1, q2⟩ := h6 j t u hj hu
      exact ⟨pure_refFree t q1, q2 j⟩
    · rw [List.getElem?_append_right (by omega)] at hj
      rw [List.getElem?_append_right (by omega)] at hu
      have hp0 : t.pure = true := (pureL_iff cs').1 h8 t (List.mem_of_getElem? hj)
      obtain ⟨c0, q1, q2⟩ := CRT_at cs' _ 0 us t hj (h9 0 [] 0)
      rw [show (List.map a.eval args.toList).length = vs'.length by omega] at hu
      rw [q1] at hu
      refine ⟨pure_refFree t hp0, c0, by simpa using hu.symm, ?_⟩
      exact CR_pure (seen C w) _ 0 j rfl (fun b hb => ⟨hb, rfl⟩) t _ [] c0 hp0 q2)
  have hrun : (execOp a.eval o).run C.P w = .ok (.enter f' ((args.toList.map a.eval) ++ us).toArray) w := by
    simp only [execOp, ho, Go.resolve, e1, Deferred.ofValue, Sem.run_bind, Sem.run_pure, Result.andThen_ok, invoke, run_callFunc g1 g2 g3]
    congr 2
    apply Array.ext'
    simp
  unfold Oper.wp
  rw [hrun]
  show Calls C.P f' _ w _
  refine hcall'.mono fun e w' hh => ?_
  obtain ⟨v, κ', rfl, hB⟩ := hh
  show FR C n _ (a.put o.dst v) w'
  rw [hdst]
  exact back_FR hd hn hI hV (dst_lt hok d hdst) hB

end

end Go.Proofs.Ytjkhggbjkkobaaa

/-
  The generic part, tenth text: each operation does what its reader says: those that read.
-/
import Derived.Test.YtjkhggbjkkobaaaMetaI
namespace Go.Proofs.Ytjkhggbjkkobaaa
open Go.RowKit

/-- What is known of a frame. -/
structure FR (C : Ctx) (n : Nat) (env : Env) (a : Act) (w : World) : Prop where
  defers : a.defers = []
  size : a.tmps.size = n
  inv : ∃ κ V, Inv C env V w κ ∧ ∀ t, t < 1000000 → V t = a.tmps.getD t undef

def opndOk : Operand → Bool
  | .tmp t => decide (t < 1000000)
  | _ => true

/-- An operation names slots that there are. -/
def opOk (n : Nat) (o : Oper) : Bool :=
  (match o.dst with | some d => decide (d < n) | none => true) && o.op.operands.all opndOk

/-- A value reads as data in this state. -/
def HV (X : Cx) (x : T) (v : Value) : Prop := x.noOwn = true ∧ ∃ s0, VR X s0 x v

section
variable {C : Ctx} {env : Env} {V : Nat → Value} {w : World} {κ : Kap} {a : Act} {AF : FuncId → List T → T → Prop} {U : List (Nat × Slot)} {R : List Nat} {n : Nat}

theorem HV.cells {X : Cx} {x : T} {v : Value} (h : HV X x v) : ∃ s0 cs, v = mkv x cs ∧ CR X s0 [] x cs :=
  let ⟨_, s0, cs, h1, h2⟩ := h
  ⟨s0, cs, h1, h2⟩

theorem HV.int {X : Cx} {k : IntKind} {m : Int} {v : Value} (h : HV X (.int k m) v) : v = .int k m := by
  obtain ⟨s0, cs, h1, h2⟩ := h.cells
  simp only [CR] at h2
  subst h2
  simpa [mkv] using h1

theorem HV.bool {X : Cx} {b : Bool} {v : Value} (h : HV X (.bool b) v) : v = .bool b := by
  obtain ⟨s0, cs, h1, h2⟩ := h.cells
  simp only [CR] at h2
  subst h2
  simpa [mkv] using h1

theorem HV.mk_int (X : Cx) (k : IntKind) (m : Int) : HV X (.int k m) (.int k m) := ⟨rfl, 0, [.int k m], rfl, by simp only [CR]⟩
theorem HV.mk_bool (X : Cx) (b : Bool) : HV X (.bool b) (.bool b) := ⟨rfl, 0, [.bool b], rfl, by simp only [CR]⟩
theorem HV.mk_nil (X : Cx) : HV X .nil (.slice none 0 0) := ⟨rfl, 0, [.slice none 0 0], rfl, by simp only [CR]⟩

theorem HV.of_CR {X : Cx} {x : T} {s : Nat} {p : List Nat} {cs : List Value} (hn : x.noOwn = true) (h : CR X s p x cs) : HV X x (mkv x cs) :=
  ⟨hn, s, cs, rfl, CR_noOwn X X s s rfl (fun _ h => ⟨h, rfl⟩) (fun _ _ _ h => ⟨h, fun hn => ⟨hn, fun _ _ h => h⟩⟩) x p [] cs hn h⟩

theorem HV.of_borrow {s k : Nat} {x : T} {p : List Nat} {cs : List Value} (hk : ∃ y, lk env s = some y ∧ k ≤ y.ver) (hx : CR (cx C env w κ) s p x cs) :
    HV (cx C env w κ) (T.borrow s k p x) (mkv x cs) := by
  rw [mkv_of_isAgg (isAgg_borrow s k x p).symm cs]
  exact HV.of_CR (noOwn_borrow s k x p) (CR_borrow (X := cx C env w κ) hk x p cs s [] hx)

theorem constT_HV (X : Cx) {v : Value} {t : T} (h : constT v = some t) : HV X t v := by
  cases v with
  | int k n => simp [constT] at h; subst h; exact HV.mk_int X k n
  | bool b => simp [constT] at h; subst h; exact HV.mk_bool X b
  | string s => simp [constT] at h; subst h; exact ⟨rfl, 0, [.string s], rfl, by simp only [CR, Con.val]⟩
  | nilFunc => simp [constT] at h; subst h; exact ⟨rfl, 0, [.nilFunc], rfl, by simp only [CR, Con.val]⟩
  | slice a l c =>
    cases a with
    | some a => simp [constT] at h
    | none =>
      cases l with
      | succ l => simp [constT] at h
      | zero =>
        cases c with
        | succ c => simp [constT] at h
        | zero => simp [constT] at h; subst h; exact HV.mk_nil X
  | _ => simp [constT] at h

theorem rdv_sat (hI : Inv C env V w κ) (hV : ∀ t, t < 1000000 → V t = a.tmps.getD t undef) {x : Operand} {c : T → Rd} (hx : opndOk x = true) (h : (rdv x c).sat AF env U R) :
    ∃ v R', (c v).sat AF env U R' ∧ HV (cx C env w κ) v (a.eval x) := by
  cases x with
  | const v =>
    simp only [rdv] at h
    cases hc : constT v with
    | none => simp [hc, Rd.sat] at h
    | some t => simp only [hc] at h; exact ⟨t, R, h, constT_HV _ hc⟩
  | tmp t =>
    have ht : t < 1000000 := by simpa [opndOk] using hx
    simp only [rdv, Rd.sat] at h
    obtain ⟨R', h, _⟩ := h
    cases hl : lk env t with
    | none => simp [hl, Rd.sat] at h
    | some sl =>
      obtain ⟨k, sv⟩ := sl
      cases sv with
      | undef => simp [hl, Rd.sat] at h
      | val y =>
        simp only [hl] at h
        obtain ⟨h1, h2⟩ := hI.val t k y hl
        refine ⟨y, R', h, h1, t, ?_⟩
        rw [show a.eval (.tmp t) = V t from (hV t ht).symm]
        exact h2
      | own y =>
        simp only [hl] at h
        obtain ⟨h1, cs, h2, h3⟩ := hI.own t k y hl
        refine ⟨_, R', h, ?_⟩
        rw [show a.eval (.tmp t) = V t from (hV t ht).symm, h2]
        exact HV.of_borrow ⟨_, hl, Nat.le_refl _⟩ h3
  | func f =>
    simp only [rdv] at h
    refine ⟨_, R, h, rfl, 0, [.func (.func f) #[] #[]], rfl, ?_⟩
    simp only [CR]
    exact ⟨[], rfl, by simp only [CRT]⟩
  | global g => simp [rdv, Rd.sat] at h

theorem rdn_sat {s k : Nat} {p : List Nat} {c : T → T → Rd} (h : (rdn s k p c).sat AF env U R) :
    ∃ T0 nd R', lk env s = some ⟨k, .own T0⟩ ∧ T.get p T0 = some nd ∧ nd.isNode = true ∧ (c T0 nd).sat AF env U R' := by
  simp only [rdn, Rd.sat] at h
  obtain ⟨R', h, _⟩ := h
  cases hl : lk env s with
  | none => simp [hl, Rd.sat] at h
  | some sl =>
    obtain ⟨k', sv⟩ := sl
    cases sv with
    | undef => simp [hl, Rd.sat] at h
    | val y => simp [hl, Rd.sat] at h
    | own T0 =>
      simp only [hl] at h
      by_cases e : k' = k
      · subst e
        rw [if_pos rfl] at h
        cases hg : T.get p T0 with
        | none => simp [hg, Rd.sat] at h
        | some nd =>
          simp only [hg] at h
          by_cases hn : nd.isNode = true
          · rw [if_pos hn] at h
            exact ⟨T0, nd, R', rfl, hg, hn, h⟩
          · rw [if_neg hn] at h; simp [Rd.sat] at h
      · rw [if_neg e] at h; simp [Rd.sat] at h

theorem put_getD {d : Nat} {v : Value} (hd : d < a.tmps.size) (t : Nat) : (a.put (some d) v).tmps.getD t undef = if t = d then v else a.tmps.getD t undef := by
  simp only [Act.put, Array.getD_eq_getD_getElem?]
  by_cases e : t = d
  · subst e; simp [hd]
  · simp [e, Array.getElem?_setIfInBounds_ne (fun h => e h.symm)]

theorem put_size (d : Option Nat) (v : Value) : (a.put d v).tmps.size = a.tmps.size := by cases d <;> simp [Act.put]
theorem put_defers (d : Option Nat) (v : Value) : (a.put d v).defers = a.defers := by cases d <;> simp [Act.put]

/-- Behind an operation that yields data. -/
theorem fin_FR (hd : a.defers = []) (hn : a.tmps.size = n) (hI : Inv C env V w κ) (hV : ∀ t, t < 1000000 → V t = a.tmps.getD t undef)
    {d : Option Nat} (hdn : ∀ t : Nat, d = some t → t < n) {x : T} {v : Value} (hx : HV (cx C env w κ) x v) (h : (fin d x).sat AF env U R) : FR C n (U ++ env) (a.put d v) w := by
  cases d with
  | none =>
    simp only [fin, Rd.sat] at h
    obtain ⟨rfl, _⟩ := h
    exact ⟨hd, hn, κ, V, hI, hV⟩
  | some d =>
    simp only [fin, Rd.sat] at h
    obtain ⟨R', ⟨rfl, _⟩, _⟩ := h
    obtain ⟨h1, s0, h2⟩ := hx
    refine ⟨by rw [put_defers]; exact hd, by rw [put_size]; exact hn, κ, upd V d v, hI.bind d _ x v (Nat.le_refl _) h1 s0 h2, fun t ht => ?_⟩
    rw [put_getD (by rw [hn]; exact hdn d rfl)]
    by_cases e : t = d
    · simp [e, upd]
    · rw [upd_other _ _ _ _ e, if_neg e]; exact hV t ht

/-- Behind an operation that yields a new tree of blocks that are new or were owned by the slots 'srcs' in the elder state. -/
theorem own_FR {env' : Env} {w' : World} {κ' : Kap} {V' : Nat → Value} {d : Nat} {v : Value} (hd : a.defers = []) (hn : a.tmps.size = n) (hdn : d < n)
    (hI : Inv C env' V' w' κ') (hV : ∀ t, t < 1000000 → V' t = if t = d then v else a.tmps.getD t undef) : FR C n env' (a.put (some d) v) w' :=
  ⟨by rw [put_defers]; exact hd, by rw [put_size]; exact hn, κ', V', hI, fun t ht => by rw [put_getD (by rw [hn]; exact hdn)]; exact hV t ht⟩

theorem wp_value {o : Oper} {P : Program} {K : Act → World → Prop} {Q : Exit → Act → World → Prop} {v : Value} {w' : World} (h : (execOp a.eval o).run P w = .ok (.value v) w') (hk : K (a.put o.dst v) w') : o.wp P a w K Q := by
  unfold Oper.wp
  rw [h]
  exact hk

theorem wp_skip' {o : Oper} {P : Program} {K : Act → World → Prop} {Q : Exit → Act → World → Prop} {w' : World} (h : (execOp a.eval o).run P w = .ok .skip w') (hk : K (a.put o.dst undef) w') : o.wp P a w K Q := by
  unfold Oper.wp
  rw [h]
  exact hk

theorem sz_of {tt : Tt} (hP : TtOk C.P tt) {e : TypeId} {i : Ty} (h : tyAt tt e = some i) : C.P.cellsOf e = i.size := by
  obtain ⟨h1, _⟩ := hP e i h
  unfold Program.cellsOf
  cases hi : C.P.info? e with
  | none => simp [hi] at h1
  | some ti => simp [hi] at h1 ⊢; exact h1.2.1

theorem info_of {P : Program} {tt : Tt} (hP : TtOk P tt) {e : TypeId} {i : Ty} (h : tyAt tt e = some i) : ∃ ti, P.info? e = some ti ∧ ti.zero = some (mkv i.zero i.zero.zc) ∧ ti.size = i.size ∧ ti.bytes = i.bytes := by
  obtain ⟨h1, _⟩ := hP e i h
  cases hi : P.info? e with
  | none => simp [hi] at h1
  | some ti => simp [hi] at h1; exact ⟨ti, rfl, h1.1, h1.2.1, h1.2.2⟩

end

end Go.Proofs.Ytjkhggbjkkobaaa

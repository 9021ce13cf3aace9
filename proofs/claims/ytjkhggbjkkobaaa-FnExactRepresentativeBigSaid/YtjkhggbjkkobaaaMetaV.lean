/-
  The generic part, twenty-second text: regions, in text order and in any order.
-/
import Derived.Test.YtjkhggbjkkobaaaMetaU
import Derived.Orders
namespace Go.Proofs.Ytjkhggbjkkobaaa
open Go.RowKit

/-- A reader, run forward. -/
def Rd.run (AF : FuncId → List T → T → Prop) : Rd → Env → (List (Nat × Slot) → List Nat → Prop) → Prop
  | .fail, _, _ => False
  | .done ups, _, K => K ups []
  | .rd t k, env, K => (k (lk env t)).run AF env fun U R => K U (t :: R)
  | .need p k, env, K => p ∧ k.run AF env K
  | .call f args ups, _, K => ∃ r, AF f args r ∧ K (ups r) []

theorem Rd.run_sat {AF : FuncId → List T → T → Prop} : ∀ (r : Rd) (env : Env) (K : List (Nat × Slot) → List Nat → Prop), r.run AF env K → ∃ U R, r.sat AF env U R ∧ K U R
  | .fail, _, _, h => h.elim
  | .done ups, _, _, h => ⟨ups, [], ⟨rfl, rfl⟩, h⟩
  | .rd t k, env, K, h => by
    obtain ⟨U, R, h1, h2⟩ := Rd.run_sat (k (lk env t)) env _ h
    exact ⟨U, t :: R, ⟨R, h1, rfl⟩, h2⟩
  | .need p k, env, K, h => by
    obtain ⟨U, R, h1, h2⟩ := Rd.run_sat k env _ h.2
    exact ⟨U, R, ⟨h.1, h1⟩, h2⟩
  | .call f args ups, _, K, h => by
    obtain ⟨r, h1, h2⟩ := h
    exact ⟨ups r, [], ⟨r, h1, rfl, rfl⟩, h2⟩

/-- An operation that is not wanted. -/
def skipRd (d : Option Nat) : Rd :=
  match d with
  | none => .done []
  | some d => .rd d fun s => .done [(d, ⟨verOf s, .undef⟩)]

/-- An operation behind its guard. -/
def gRd (tt : Tt) (md : FuncId → List Bool) (ops : Array Oper) (i : Nat) (o : Oper) : Rd :=
  match o.guard with
  | none => opRd tt md i o
  | some (j, want) => match (ops[j]?).bind (·.dst) with
    | none => .fail
    | some t => if t < 1000000 then .rd t fun
      | some ⟨_, .val (.bool b)⟩ => if b = want then opRd tt md i o else skipRd o.dst
      | some ⟨_, .undef⟩ => skipRd o.dst
      | _ => .fail
      else .fail

section
variable {C : Ctx} {env : Env} {V : Nat → Value} {w : World} {κ : Kap} {a : Act} {AF : FuncId → List T → T → Prop} {U : List (Nat × Slot)} {R : List Nat} {n : Nat}
variable {tt : Tt} {P : Program}

theorem bool_at (hF : FR C n env a w) {t k : Nat} {b : Bool} (ht : t < 1000000) (h : lk env t = some ⟨k, .val (.bool b)⟩) : a.tmps.getD t undef = .bool b := by
  obtain ⟨_, _, κ, V, hI, hV⟩ := hF
  obtain ⟨_, h2⟩ := hI.val t k _ h
  rw [← hV t ht]
  exact HV.bool ⟨rfl, t, h2⟩

theorem undef_at (hF : FR C n env a w) {t k : Nat} (ht : t < 1000000) (h : lk env t = some ⟨k, .undef⟩) : a.tmps.getD t undef = undef := by
  obtain ⟨_, _, κ, V, hI, hV⟩ := hF
  rw [← hV t ht]
  exact hI.und t k h

theorem skip_FR (hF : FR C n env a w) {d : Option Nat} (hdn : ∀ t : Nat, d = some t → t < n) (h : (skipRd d).sat AF env U R) : FR C n (U ++ env) (a.put d undef) w := by
  obtain ⟨hd, hn, κ, V, hI, hV⟩ := hF
  cases d with
  | none =>
    simp only [skipRd, Rd.sat] at h
    obtain ⟨rfl, _⟩ := h
    exact ⟨hd, hn, κ, V, hI, hV⟩
  | some d =>
    simp only [skipRd, Rd.sat] at h
    obtain ⟨R', ⟨rfl, _⟩, _⟩ := h
    refine ⟨by rw [put_defers]; exact hd, by rw [put_size]; exact hn, κ, upd V d undef, hI.bindUndef d _ (Nat.le_refl _), fun t ht => ?_⟩
    rw [put_getD (by rw [hn]; exact hdn d rfl)]
    by_cases e : t = d
    · simp [e, upd]
    · rw [upd_other _ _ _ _ e, if_neg e]; exact hV t ht

theorem yielded_some {ops : Array Oper} {j t : Nat} {b : Bool} (h : (ops[j]?).bind (·.dst) = some t) (hv : a.tmps.getD t undef = .bool b) : yielded ops a.tmps j = some b := by
  unfold yielded
  rw [h]
  simp only [Option.bind_some]
  rw [Array.getD_eq_getD_getElem?] at hv
  cases hx : a.tmps[t]? with
  | none => rw [hx] at hv; simp [undef] at hv
  | some x => rw [hx] at hv; simp at hv; subst hv; rfl

theorem yielded_none {ops : Array Oper} {j t : Nat} (h : (ops[j]?).bind (·.dst) = some t) (hv : a.tmps.getD t undef = undef) : yielded ops a.tmps j = none := by
  unfold yielded
  rw [h]
  simp only [Option.bind_some]
  rw [Array.getD_eq_getD_getElem?] at hv
  cases hx : a.tmps[t]? with
  | none => rfl
  | some x => rw [hx] at hv; simp at hv; subst hv; rfl

theorem wpOp_go {P : Program} {ops : Array Oper} {Q : Exit → Act → World → Prop} {i : Nat} {K : Act → World → Prop} {o : Oper} (ho : ops[i]? = some o) (hw : Region.wanted o (yielded ops a.tmps) = true) (h : o.wp P a w K Q) : wpOp P ops Q i K a w := by
  unfold wpOp
  simp only [ho, hw, if_true]
  exact .inl h

theorem wpOp_pass {P : Program} {ops : Array Oper} {Q : Exit → Act → World → Prop} {i : Nat} {K : Act → World → Prop} {o : Oper} (ho : ops[i]? = some o) (hw : Region.wanted o (yielded ops a.tmps) = false) (h : K (a.put o.dst undef) w) : wpOp P ops Q i K a w := by
  unfold wpOp
  simp only [ho, hw, Bool.false_eq_true, if_false]
  exact h

/-- One operation of a region. -/
theorem gRd_sound (hP : TtOk C.P tt) (md : FuncId → List Bool) (hF : FR C n env a w) (hn1 : n ≤ 1000000) {ops : Array Oper} {i : Nat} {o : Oper} (ho : ops[i]? = some o) (hok : opOk n o = true)
    (h : (gRd tt md ops i o).sat (AFn C.P) env U R) {Q : Exit → Act → World → Prop} {K : Act → World → Prop} (hK : ∀ a' w', FR C n (U ++ env) a' w' → K a' w') : wpOp C.P ops Q i K a w := by
  have hdn : ∀ t : Nat, o.dst = some t → t < n := fun t ht => dst_lt hok t ht
  unfold gRd at h
  split at h
  · rename_i hg
    exact wpOp_go ho (by simp [Region.wanted, hg]) (Oper.wp_mono hK (op_sound hP md hF hn1 hok h))
  · rename_i j want hg
    split at h
    · simp [Rd.sat] at h
    · rename_i t hj
      split at h
      · rename_i ht
        simp only [Rd.sat] at h
        obtain ⟨R', h, rfl⟩ := h
        split at h
        · rename_i k b hl
          have hy := yielded_some hj (bool_at hF ht hl)
          split at h
          · rename_i hb
            exact wpOp_go ho (by simp [Region.wanted, hg, hy, hb]) (Oper.wp_mono hK (op_sound hP md hF hn1 hok h))
          · rename_i hb
            exact wpOp_pass ho (by simpa [Region.wanted, hg, hy] using hb) (hK _ _ (skip_FR hF hdn h))
        · rename_i k hl
          have hy := yielded_none hj (undef_at hF ht hl)
          exact wpOp_pass ho (by simp [Region.wanted, hg, hy]) (hK _ _ (skip_FR hF hdn h))
        · simp [Rd.sat] at h
      · simp [Rd.sat] at h

end

/-- The readers of a region, run in text order. 'acc': what was written and read, the last one first. -/
def rgn (AF : FuncId → List T → T → Prop) (chk : List (List Nat × List Nat) → Prop) (Q : Env → Prop) : List Rd → Env → List (List Nat × List Nat) → Prop
  | [], env, acc => chk acc.reverse ∧ Q env
  | r :: rs, env, acc => r.run AF env fun U R => rgn AF chk Q rs (U ++ env) ((U.map (·.1), R) :: acc)

/-- .. and its trace. -/
inductive Txt (AF : FuncId → List T → T → Prop) : List Rd → Env → List (List (Nat × Slot) × List Nat) → Env → Prop where
  | nil (env : Env) : Txt AF [] env [] env
  | cons (r : Rd) (rs : List Rd) (env : Env) (U : List (Nat × Slot)) (R : List Nat) (tr : List (List (Nat × Slot) × List Nat)) (env' : Env) (h : r.sat AF env U R) (h2 : Txt AF rs (U ++ env) tr env') : Txt AF (r :: rs) env ((U, R) :: tr) env'

theorem rgn_txt {AF : FuncId → List T → T → Prop} {chk : List (List Nat × List Nat) → Prop} {Q : Env → Prop} : ∀ (rs : List Rd) (env : Env) (acc : List (List Nat × List Nat)), rgn AF chk Q rs env acc →
    ∃ tr env', Txt AF rs env tr env' ∧ chk (acc.reverse ++ tr.map fun x => (x.1.map (·.1), x.2)) ∧ Q env'
  | [], env, acc, h => ⟨[], env, .nil env, by simpa using h.1, h.2⟩
  | r :: rs, env, acc, h => by
    obtain ⟨U, R, h1, h2⟩ := Rd.run_sat r env _ h
    obtain ⟨tr, env', h3, h4, h5⟩ := rgn_txt rs _ _ h2
    exact ⟨_, env', .cons r rs env U R tr env' h1 h3, by simpa using h4, h5⟩

def gRds (tt : Tt) (md : FuncId → List Bool) (ops : Array Oper) : List Oper → Nat → List Rd
  | [], _ => []
  | o :: l, i => gRd tt md ops i o :: gRds tt md ops l (i + 1)

section
variable {C : Ctx} {n : Nat} {tt : Tt}

theorem Txt.text (hP : TtOk C.P tt) (md : FuncId → List Bool) (hn1 : n ≤ 1000000) {ops : Array Oper} {Q : Exit → Act → World → Prop} : ∀ (l : List Oper) (i : Nat) (env : Env) (a : Act) (w : World) (tr : List (List (Nat × Slot) × List Nat)) (env' : Env),
    (∀ j, ops[i + j]? = l[j]?) → (∀ o ∈ l, opOk n o = true) → FR C n env a w → Txt (AFn C.P) (gRds tt md ops l i) env tr env' → (∀ a' w', FR C n env' a' w' → Q .normal a' w') →
    wpOps C.P ops Q (List.range' i l.length) a w
  | [], i, env, a, w, tr, env', _, _, hF, ht, hQ => by
    cases ht
    exact hQ a w hF
  | o :: l, i, env, a, w, tr, env', hl, hok, hF, ht, hQ => by
    cases ht with
    | cons _ _ _ U R tr' _ h h2 =>
      rw [List.length_cons, List.range'_succ, wpOps_cons]
      exact gRd_sound hP md hF hn1 (by simpa using hl 0) (hok o (by simp)) h (fun a' w' hF' =>
        Txt.text hP md hn1 l (i + 1) _ a' w' tr' env' (fun j => by have := hl (j + 1); simpa [Nat.add_assoc, Nat.add_comm 1 j] using this) (fun o ho => hok o (by simp [ho])) hF' h2 hQ)

/-- A region in text order. -/
theorem region_text (hP : TtOk C.P tt) (md : FuncId → List Bool) (hn1 : n ≤ 1000000) {ops : Array Oper} {id : Nat} {env : Env} {a : Act} {w : World} {Q : Exit → Act → World → Prop} {QE : Env → Prop} (hok : ops.toList.all (opOk n) = true) (hF : FR C n env a w)
    (h : rgn (AFn C.P) (fun _ => True) QE (gRds tt md ops ops.toList 0) env []) (hQ : ∀ env' a' w', QE env' → FR C n env' a' w' → Q .normal a' w') : (Code.region id ops false).wp C.P Q a w := by
  obtain ⟨tr, env', h1, _, h2⟩ := rgn_txt _ _ _ h
  refine wp_region ?_
  have := Txt.text (Q := Q) hP md hn1 ops.toList 0 env a w tr env' (fun j => by simp) (fun o ho => by simpa using List.all_eq_true.1 hok o ho) hF h1 (fun a' w' hF' => hQ env' a' w' h2 hF')
  rw [List.range_eq_range']
  simpa using this

end

end Go.Proofs.Ytjkhggbjkkobaaa

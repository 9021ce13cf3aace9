/-
  The generic part, twenty-third text: regions in any order that their edges leave open.
-/
import Derived.Test.YtjkhggbjkkobaaaMetaV
namespace Go.Proofs.Ytjkhggbjkkobaaa
open Go.RowKit

/-- The slots behind the first k operations, where those of S have run. -/
def pre (E : Nat → List (Nat × Slot)) (S : Nat → Bool) (env : Env) : Nat → Env
  | 0 => env
  | k + 1 => if S k then E k ++ pre E S env k else pre E S env k

def wr (l : List (Nat × Slot)) : List Nat := l.map (·.1)

theorem lk_append_in (l : List (Nat × Slot)) (env env' : Env) (t : Nat) (h : t ∈ wr l) : lk (l ++ env) t = lk (l ++ env') t := by
  induction l with
  | nil => simp [wr] at h
  | cons x l ih =>
    obtain ⟨u, s⟩ := x
    simp only [List.cons_append, lk]
    by_cases e : u = t
    · simp [e]
    · rw [if_neg e, if_neg e]
      refine ih ?_
      simp only [wr, List.map_cons, List.mem_cons] at h
      exact h.resolve_left (fun h => e h.symm)

theorem lk_append_out (l : List (Nat × Slot)) (env : Env) (t : Nat) (h : t ∉ wr l) : lk (l ++ env) t = lk env t :=
  lk_append_not _ _ _ (fun x hx e => h (List.mem_map.2 ⟨x, hx, e⟩))

theorem pre_agree (E : Nat → List (Nat × Slot)) (S S' : Nat → Bool) (env : Env) (t : Nat) : ∀ k, (∀ j, j < k → t ∈ wr (E j) → S j = S' j) → lk (pre E S env k) t = lk (pre E S' env k) t
  | 0, _ => rfl
  | k + 1, h => by
    have ih := pre_agree E S S' env t k (fun j hj => h j (by omega))
    simp only [pre]
    by_cases ht : t ∈ wr (E k)
    · rw [h k (by omega) ht]
      split
      · exact lk_append_in _ _ _ _ ht
      · exact ih
    · have h1 : ∀ (b : Bool) (X : Env), lk (if b = true then E k ++ X else X) t = lk X t := by
        intro b X
        cases b
        · rfl
        · exact lk_append_out _ _ _ ht
      rw [h1, h1]
      exact ih

theorem pre_lt (E : Nat → List (Nat × Slot)) (env : Env) (t : Nat) (S : Nat → Bool) (i : Nat) : ∀ k, i ≤ k → (∀ j, i ≤ j → j < k → t ∈ wr (E j) → S j = false) → lk (pre E S env k) t = lk (pre E S env i) t
  | 0, hi, _ => by rw [Nat.le_zero.1 hi]
  | k + 1, hi, h => by
    by_cases e : i = k + 1
    · rw [e]
    · have ih := pre_lt E env t S i k (by omega) (fun j h1 h2 => h j h1 (by omega))
      simp only [pre]
      split
      · rename_i hs
        have : t ∉ wr (E k) := fun ht => by rw [h k (by omega) (by omega) ht] at hs; cases hs
        rw [lk_append_out _ _ _ this]; exact ih
      · exact ih

theorem Txt.pre {AF : FuncId → List T → T → Prop} {tt : Tt} {md : FuncId → List Bool} {ops : Array Oper} {E : Nat → List (Nat × Slot)} {RR : Nat → List Nat} {env0 : Env} : ∀ (l : List Oper) (i : Nat) (env : Env) (tr : List (List (Nat × Slot) × List Nat)) (env' : Env),
    Txt AF (gRds tt md ops l i) env tr env' → (∀ j, j < l.length → E (i + j) = (tr.getD j ([], [])).1 ∧ RR (i + j) = (tr.getD j ([], [])).2) → env = pre E (fun _ => true) env0 i →
    (∀ j o, l[j]? = some o → (gRd tt md ops (i + j) o).sat AF (pre E (fun _ => true) env0 (i + j)) (E (i + j)) (RR (i + j))) ∧ env' = pre E (fun _ => true) env0 (i + l.length) ∧ tr.length = l.length
  | [], i, env, tr, env', h, _, he => by
    cases h
    exact ⟨fun j o hj => by simp at hj, he, rfl⟩
  | o :: l, i, env, tr, env', h, hE, he => by
    cases h with
    | cons _ _ _ U R tr' _ h h2 =>
      have h0 := hE 0 (by simp)
      simp only [Nat.add_zero, List.getD_cons_zero] at h0
      obtain ⟨g1, g2, g3⟩ := Txt.pre (E := E) (RR := RR) (env0 := env0) l (i + 1) _ tr' env' h2 (fun j hj => by
        have := hE (j + 1) (by simpa using hj)
        simpa [Nat.add_assoc, Nat.add_comm 1 j] using this) (by simp only [Go.Proofs.Ytjkhggbjkkobaaa.pre, if_true, h0.1, he])
      refine ⟨fun j o' hj => ?_, by rw [g2, List.length_cons]; congr 1; omega, by simp [g3]⟩
      cases j with
      | zero => simp at hj; subst hj; simp only [Nat.add_zero]; rw [h0.1, h0.2, ← he]; exact h
      | succ j => have := g1 j o' (by simpa using hj); rwa [show i + 1 + j = i + (j + 1) by omega] at this

def ancOf (l : List Nat) (o : Oper) : Nat := o.after.toList.foldr (fun e m => if Region.binds .any e then m ||| (1 <<< e.on) ||| l.getD e.on 0 else m) 0

def ancs : List Oper → List Nat → List Nat
  | [], l => l
  | o :: os, l => ancs os (l ++ [ancOf l o])

def conf (x y : List Nat × List Nat) : Bool := x.1.any (fun t => y.1.contains t || y.2.contains t) || y.1.any (fun t => x.2.contains t)

/-- What the edges do not order, does not meet. -/
def okB (ops : Array Oper) (tr : List (List Nat × List Nat)) : Bool :=
  let M := ancs ops.toList []
  ((List.range ops.size).all fun j => ((ops[j]?).map fun o => o.after.all fun e => !Region.binds .any e || decide (e.on < j)).getD true) &&
  (List.range ops.size).all fun j => (List.range j).all fun i => !conf (tr.getD i ([], [])) (tr.getD j ([], [])) || (M.getD j 0).testBit i

theorem ancOf_spec (l : List Nat) (o : Oper) (i : Nat) (h : (ancOf l o).testBit i = true) : ∃ e ∈ o.after.toList, Region.binds .any e = true ∧ (e.on = i ∨ (l.getD e.on 0).testBit i = true) := by
  unfold ancOf at h
  generalize o.after.toList = es at h
  induction es with
  | nil => simp at h
  | cons e es ih =>
    simp only [List.foldr_cons] at h
    split at h
    · rename_i hb
      simp only [Nat.testBit_or, Bool.or_eq_true] at h
      rcases h with (h | h) | h
      · obtain ⟨e', h1, h2⟩ := ih h
        exact ⟨e', by simp [h1], h2⟩
      · refine ⟨e, by simp, hb, .inl ?_⟩
        rw [Nat.one_shiftLeft, Nat.testBit_two_pow] at h
        simpa using h
      · exact ⟨e, by simp, hb, .inr h⟩
    · obtain ⟨e', h1, h2⟩ := ih h
      exact ⟨e', by simp [h1], h2⟩

theorem ancs_spec (S : Nat → Bool) (ops : Array Oper) (hc : ∀ j o, S j = true → ops[j]? = some o → ∀ e ∈ o.after.toList, Region.binds .any e = true → S e.on = true) :
    ∀ (os : List Oper) (l : List Nat), (∀ k, os[k]? = ops[l.length + k]?) → (∀ j i, S j = true → (l.getD j 0).testBit i = true → S i = true) → ∀ j i, S j = true → ((ancs os l).getD j 0).testBit i = true → S i = true
  | [], l, _, h => h
  | o :: os, l, hos, h => by
    refine ancs_spec S ops hc os (l ++ [ancOf l o]) (fun k => by have := hos (k + 1); simpa [Nat.add_assoc, Nat.add_comm 1 k] using this) (fun j i hS hb => ?_)
    by_cases e : j = l.length
    · subst e
      have hg : (l ++ [ancOf l o]).getD l.length 0 = ancOf l o := by simp [List.getD_eq_getElem?_getD]
      rw [hg] at hb
      obtain ⟨e, he, hbi, h2⟩ := ancOf_spec l o i hb
      have hSe := hc l.length o hS (by simpa using (hos 0).symm) e he hbi
      rcases h2 with h2 | h2
      · exact h2 ▸ hSe
      · exact h _ i hSe h2
    · by_cases e2 : j < l.length
      · have hg : (l ++ [ancOf l o]).getD j 0 = l.getD j 0 := by simp [List.getD_eq_getElem?_getD, List.getElem?_append_left e2]
        rw [hg] at hb
        exact h j i hS hb
      · have hg : (l ++ [ancOf l o]).getD j 0 = 0 := by
          rw [List.getD_eq_getElem?_getD, List.getElem?_eq_none (by simp; omega)]; rfl
        rw [hg] at hb
        simp at hb

theorem conf_false {x y : List Nat × List Nat} (h : conf x y = false) : (∀ t ∈ x.1, t ∉ y.1 ∧ t ∉ y.2) ∧ ∀ t ∈ y.1, t ∉ x.2 := by
  simp only [conf, Bool.or_eq_false_iff, List.any_eq_false] at h
  refine ⟨fun t ht => ?_, fun t ht => ?_⟩
  · have := h.1 t ht
    simp at this
    exact this
  · have := h.2 t ht
    simpa using this

theorem countP_step (p q : Nat → Bool) (i : Nat) (hp : p i = true) (hq : q i = false) (hpq : ∀ j, j ≠ i → q j = p j) : ∀ n, i < n → (List.range n).countP p = (List.range n).countP q + 1
  | 0, h => by omega
  | n + 1, h => by
    simp only [List.range_succ, List.countP_append, List.countP_cons, List.countP_nil]
    by_cases e : i = n
    · subst e
      have : (List.range i).countP p = (List.range i).countP q := List.countP_congr (fun x hx => by rw [hpq x (by have := List.mem_range.1 hx; omega)])
      simp [this, hp, hq]
    · have ih := countP_step p q i hp hq hpq n (by omega)
      rw [ih, hpq n (by omega)]
      omega

section
variable {C : Ctx} {n : Nat} {tt : Tt}

theorem any_core (hP : TtOk C.P tt) (md : FuncId → List Bool) (hn1 : n ≤ 1000000) {ops : Array Oper} {Q : Exit → Act → World → Prop} {E : Nat → List (Nat × Slot)} {RR : Nat → List Nat} {env0 : Env}
    (hok : ∀ o ∈ ops.toList, opOk n o = true)
    (hsat : ∀ j o, ops[j]? = some o → (gRd tt md ops j o).sat (AFn C.P) (pre E (fun _ => true) env0 j) (E j) (RR j))
    (hback : ∀ j o, ops[j]? = some o → ∀ e ∈ o.after.toList, Region.binds .any e = true → e.on < j)
    (hconf : ∀ i j, i < j → j < ops.size → conf (wr (E i), RR i) (wr (E j), RR j) = false ∨ ((ancs ops.toList []).getD j 0).testBit i = true)
    (hQ : ∀ a w, FR C n (pre E (fun _ => true) env0 ops.size) a w → Q .normal a w) :
    ∀ (fuel : Nat) (listed : Array Bool) (a : Act) (w : World), listed.size = ops.size →
      (∀ j o, listed.getD j false = true → ops[j]? = some o → ∀ e ∈ o.after.toList, Region.binds .any e = true → listed.getD e.on false = true) →
      (List.range ops.size).countP (fun j => !listed.getD j false) = fuel → FR C n (pre E (fun j => listed.getD j false) env0 ops.size) a w → wpAny C.P .any ops Q fuel listed a w := by
  have hlt : ∀ (listed : Array Bool), listed.size = ops.size → ∀ j, j < ops.size → listed.getD j true = listed.getD j false := fun listed hs j hj => by
    simp [Array.getD, hs, hj]
  intro fuel
  induction fuel with
  | zero =>
    intro listed a w hs hc hcnt hF
    have hall : ∀ j, j < ops.size → listed.getD j false = true := fun j hj => by
      have := List.countP_eq_zero.1 hcnt j (List.mem_range.2 hj)
      simpa using this
    refine ⟨?_, hQ a w (hF.congr fun t => pre_agree _ _ _ _ _ _ (fun j hj _ => (hall j hj).symm))⟩
    cases hr : Region.ready .any ops listed with
    | nil => rfl
    | cons x xs =>
      have hx : x ∈ Region.ready .any ops listed := by rw [hr]; simp
      obtain ⟨h1, o, h2, _⟩ := mem_ready.1 hx
      have hxs : x < ops.size := (Array.getElem?_eq_some_iff.1 h2).1
      rw [hlt listed hs x hxs, hall x hxs] at h1
      cases h1
  | succ fuel ih =>
    intro listed a w hs hc hcnt hF
    refine ⟨fun hr => ?_, fun i hi => ?_⟩
    · exfalso
      -- the first that is not listed is ready
      have hex : ∃ j, j < ops.size ∧ listed.getD j false = false := by
        refine Classical.byContradiction fun hno => ?_
        have : (List.range ops.size).countP (fun j => !listed.getD j false) = 0 := List.countP_eq_zero.2 (fun j hj => by
          intro hb
          exact hno ⟨j, List.mem_range.1 hj, by simpa using hb⟩)
        omega
      have hmin : ∀ k, (∀ j, j < k → listed.getD j false = true) ∨ ∃ j, j < k ∧ listed.getD j false = false ∧ ∀ i, i < j → listed.getD i false = true := by
        intro k
        induction k with
        | zero => exact .inl (fun j hj => by omega)
        | succ k ihk =>
          rcases ihk with h | ⟨j, h1, h2, h3⟩
          · cases hk : listed.getD k false with
            | true => exact .inl (fun j hj => by
                by_cases e : j = k
                · rw [e]; exact hk
                · exact h j (by omega))
            | false => exact .inr ⟨k, by omega, hk, h⟩
          · exact .inr ⟨j, by omega, h2, h3⟩
      obtain ⟨j0, hj0, hj0f⟩ := hex
      rcases hmin ops.size with h | ⟨j, h1, h2, h3⟩
      · rw [h j0 hj0] at hj0f; cases hj0f
      · have : j ∈ Region.ready .any ops listed := by
          refine mem_ready.2 ⟨by rw [hlt listed hs j h1]; exact h2, ops[j], by simp [h1], fun e he hb => h3 _ (hback j ops[j] (by simp [h1]) e (by simpa using he) hb)⟩
        rw [hr] at this
        cases this
    · obtain ⟨h1, o, ho, hall⟩ := mem_ready.1 hi
      have his : i < ops.size := (Array.getElem?_eq_some_iff.1 ho).1
      rw [hlt listed hs i his] at h1
      -- the listed ones, and i, are closed
      have hset : ∀ j, (listed.setIfInBounds i true).getD j false = if j = i then true else listed.getD j false := fun j => by
        by_cases e : j = i
        · subst e; simp [hs, his]
        · rw [if_neg e, getD_set_ne false (fun h => e h.symm)]
      have hc' : ∀ j o, (listed.setIfInBounds i true).getD j false = true → ops[j]? = some o → ∀ e ∈ o.after.toList, Region.binds .any e = true → (listed.setIfInBounds i true).getD e.on false = true := by
        intro j o' hj ho' e he hb
        by_cases e1 : j = i
        · subst e1
          rw [ho] at ho'
          cases ho'
          exact getD_set_true (hall e (by simpa using he) hb)
        · rw [hset j, if_neg e1] at hj
          exact getD_set_true (hc j o' hj ho' e he hb)
      have hanc : ∀ j k, (listed.setIfInBounds i true).getD j false = true → ((ancs ops.toList []).getD j 0).testBit k = true → (listed.setIfInBounds i true).getD k false = true :=
        ancs_spec _ ops hc' ops.toList [] (fun k => by simp) (fun j i _ hb => by simp at hb)
      have hi' : (listed.setIfInBounds i true).getD i false = true := by rw [hset]; simp
      -- what lies before i and meets it has run; what lies behind and meets it has not
      have hbefore : ∀ k, k < i → conf (wr (E k), RR k) (wr (E i), RR i) = true → listed.getD k false = true := fun k hk hcf => by
        rcases hconf k i hk his with h | h
        · rw [h] at hcf; cases hcf
        · have := hanc i k hi' h
          rwa [hset, if_neg (by omega)] at this
      have hafter : ∀ k, i < k → k < ops.size → conf (wr (E i), RR i) (wr (E k), RR k) = true → listed.getD k false = false := fun k hk hks hcf => by
        rcases hconf i k hk hks with h | h
        · rw [h] at hcf; cases hcf
        · cases hl : listed.getD k false with
          | false => rfl
          | true =>
            have hcl : listed.getD i false = true := ancs_spec (fun j => listed.getD j false) ops hc ops.toList [] (fun k => by simp) (fun j i _ hb => by simp at hb) k i hl h
            rw [h1] at hcl; cases hcl
      have hcA : ∀ {x y : List Nat × List Nat} (t : Nat), t ∈ x.1 → (t ∈ y.1 ∨ t ∈ y.2) → conf x y = true := fun {x y} t h1 h2 => by
        cases hcf : conf x y with
        | true => rfl
        | false => obtain ⟨g1, _⟩ := conf_false hcf; have := g1 t h1; exact (h2.elim this.1 this.2).elim
      have hcB : ∀ {x y : List Nat × List Nat} (t : Nat), t ∈ y.1 → t ∈ x.2 → conf x y = true := fun {x y} t h1 h2 => by
        cases hcf : conf x y with
        | true => rfl
        | false => obtain ⟨_, g2⟩ := conf_false hcf; exact (g2 t h1 h2).elim
      have hreads : ∀ t ∈ RR i, lk (pre E (fun j => listed.getD j false) env0 ops.size) t = lk (pre E (fun _ => true) env0 i) t := fun t ht => by
        rw [pre_lt E env0 t _ i ops.size (by omega) (fun j h2 h3 h4 => by
          by_cases e : j = i
          · rw [e]; exact h1
          · exact hafter j (by omega) h3 (hcB t h4 ht))]
        exact pre_agree _ _ _ _ _ _ (fun j hj h4 => hbefore j hj (hcA t h4 (.inr ht)))
      refine gRd_sound hP md hF hn1 ho (hok o (by
        rw [Array.mem_toList_iff]; exact Array.mem_of_getElem? ho)) (Rd.sat_local _ _ _ _ _ (hsat i o ho) hreads) (fun a' w' hF' => ?_)
      refine ih (listed.setIfInBounds i true) a' w' (by simpa using hs) hc' ?_ (hF'.congr fun t => ?_)
      · have := countP_step (fun j => !listed.getD j false) (fun j => !(listed.setIfInBounds i true).getD j false) i (by show (!listed.getD i false) = true; rw [h1]; rfl) (by show (!(listed.setIfInBounds i true).getD i false) = false; rw [hi']; rfl) (fun j hj => by rw [hset, if_neg hj]) ops.size his
        omega
      · by_cases ht : t ∈ wr (E i)
        · have hno : ∀ j, i < j → j < ops.size → t ∈ wr (E j) → (listed.setIfInBounds i true).getD j false = false := fun j h2 h3 h4 => by
            rw [hset, if_neg (by omega)]
            exact hafter j h2 h3 (hcA t ht (.inl h4))
          rw [pre_lt E env0 t _ (i + 1) ops.size (by omega) (fun j h2 h3 h4 => hno j (by omega) h3 h4)]
          simp only [pre, hi', if_true]
          exact lk_append_in _ _ _ _ ht
        · rw [lk_append_out _ _ _ ht]
          exact pre_agree _ _ _ _ _ _ (fun j hj h4 => by
            rw [hset]
            by_cases e : j = i
            · subst e; exact absurd h4 ht
            · rw [if_neg e])

theorem FR.draw {env : Env} {a : Act} {w : World} (h : FR C n env a w) : FR C n env a { w with drawn := w.drawn + 1 } :=
  ⟨h.defers, h.size, let ⟨κ, V, h1, h2⟩ := h.inv; ⟨κ, V, h1.ext rfl rfl rfl (Nat.le_refl _) (fun _ _ => rfl), h2⟩⟩

/-- A region in any order. -/
theorem region_any (hm : C.P.follows .mixedOrders = true) (hP : TtOk C.P tt) (md : FuncId → List Bool) (hn1 : n ≤ 1000000) {ops : Array Oper} {id : Nat} {env : Env} {a : Act} {w : World} {Q : Exit → Act → World → Prop} {QE : Env → Prop} (hok : ops.toList.all (opOk n) = true) (hF : FR C n env a w)
    (h : rgn (AFn C.P) (fun tr => okB ops tr = true) QE (gRds tt md ops ops.toList 0) env []) (hQ : ∀ env' a' w', QE env' → FR C n env' a' w' → Q .normal a' w') : (Code.region id ops true).wp C.P Q a w := by
  obtain ⟨tr, env', h1, h2, h3⟩ := rgn_txt _ _ _ h
  refine wp_region_any hm ?_
  obtain ⟨g1, g2, g3⟩ := Txt.pre (E := fun j => (tr.getD j ([], [])).1) (RR := fun j => (tr.getD j ([], [])).2) (env0 := env) ops.toList 0 env tr env' h1 (fun j _ => by simp) rfl
  simp only [okB, Bool.and_eq_true, List.all_eq_true, List.mem_range] at h2
  obtain ⟨k1, k2⟩ := h2
  refine any_core hP md hn1 (E := fun j => (tr.getD j ([], [])).1) (RR := fun j => (tr.getD j ([], [])).2) (env0 := env) (fun o ho => List.all_eq_true.1 hok o ho) (fun j o ho => by
      have := g1 j o (by simpa using ho)
      simpa using this) (fun j o ho e he hb => ?_) (fun i j hij hj => ?_) (fun a' w' hF' => hQ env' a' w' h3 (by rw [g2]; simpa using hF')) ops.size _ a _ (by simp) (fun j o hj ho => ?_) ?_ (hF.draw.congr fun t => ?_)
  · have hjs : j < ops.size := (Array.getElem?_eq_some_iff.1 ho).1
    have := k1 j hjs
    rw [ho] at this
    simp only [Option.map_some, Option.getD_some, Array.all_eq_true_iff_forall_mem] at this
    have := this e (by simpa using he)
    simpa [hb] using this
  · have := k2 j hj i hij
    simp only [List.nil_append, List.reverse_nil, Bool.or_eq_true, Bool.not_eq_true'] at this
    rcases this with h | h
    · left
      simp only [List.getD_eq_getElem?_getD, List.getElem?_map] at h ⊢
      have hi' : i < tr.length := by rw [g3]; simpa using (by omega : i < ops.size)
      have hj' : j < tr.length := by rw [g3]; simpa using hj
      simpa [hi', hj', wr] using h
    · exact .inr h
  · rw [show (Array.replicate ops.size false).getD j false = false by simp [Array.getD]] at hj
    cases hj
  · have : (List.range ops.size).countP (fun j => !(Array.replicate ops.size false).getD j false) = (List.range ops.size).length := List.countP_eq_length.2 (fun j hj => by simp [Array.getD])
    rw [this, List.length_range]
  · rw [pre_agree _ _ (fun _ => false) _ _ _ (fun j hj _ => by simp [Array.getD])]
    have : ∀ k, pre (fun j => (tr.getD j ([], [])).1) (fun _ => false) env k = env := fun k => by
      induction k with
      | zero => rfl
      | succ k ih => simpa [pre] using ih
    rw [this]

end

end Go.Proofs.Ytjkhggbjkkobaaa

/-
  The generic part, fourth text: inside a block: reading and writing at an offset; handles; freezing.
-/
import Derived.Test.YtjkhggbjkkobaaaMetaC
namespace Go.Proofs.Ytjkhggbjkkobaaa
open Go.RowKit

/-- New cells at an offset. -/
def splice (cs : List Value) (o : Nat) (c : List Value) : List Value := cs.take o ++ c ++ cs.drop (o + c.length)

theorem splice_length {cs : List Value} {o : Nat} {c : List Value} (h : o + c.length ≤ cs.length) : (splice cs o c).length = cs.length := by
  simp only [splice, List.length_append, List.length_take, List.length_drop]; omega

theorem splice_take {cs : List Value} {o n : Nat} {c : List Value} (h : o + c.length ≤ n) (hn : n ≤ cs.length) : (splice cs o c).take n = splice (cs.take n) o c := by
  simp only [splice]
  rw [List.take_append, List.take_append]
  simp only [List.length_append, List.length_take]
  rw [show min o cs.length = o by omega, List.take_of_length_le (l := List.take o cs) (by simp; omega), List.take_of_length_le (l := c) (by omega), List.take_take, show min o n = o by omega, List.drop_take]

theorem splice_tail {cs : List Value} {m o : Nat} {c : List Value} (h : m ≤ cs.length) : (splice cs (m + o) c).take m = cs.take m ∧ (splice cs (m + o) c).drop m = splice (cs.drop m) o c := by
  constructor
  · simp only [splice]
    rw [List.append_assoc, List.take_append_of_le_length (by simp; omega), List.take_take]
    congr 1; omega
  · simp only [splice]
    rw [List.append_assoc, List.append_assoc, List.drop_append_of_le_length (by simp; omega), List.drop_take, List.drop_drop]
    rw [show m + o - m = o by omega, show m + (o + c.length) = m + o + c.length by omega]

/-- Through structs alone: the tree there, and where its cells begin. -/
def T.getI : List Nat → T → Option T
  | [], t => some t
  | i :: p, .agg l => (l[i]?).bind (T.getI p)
  | _ :: _, _ => none
def T.offI : List Nat → T → Nat
  | i :: p, .agg l => T.sizeL (l.take i) + ((l[i]?).map (T.offI p)).getD 0
  | _, _ => 0

theorem sizeL_take_le (l : List T) (i : Nat) (t : T) (h : l[i]? = some t) : T.sizeL (l.take i) + t.size ≤ T.sizeL l := by
  induction l generalizing i with
  | nil => simp at h
  | cons x l ih =>
    cases i with
    | zero => simp at h; subst h; simp [T.sizeL]
    | succ i => simp at h; have := ih i h; simp [T.sizeL]; omega

theorem splice_splice (cs : List Value) (m n o : Nat) (c : List Value) (h : m + n ≤ cs.length) (ho : o + c.length ≤ n) :
    splice cs m (splice ((cs.drop m).take n) o c) = splice cs (m + o) c := by
  have hl : (splice ((cs.drop m).take n) o c).length = n := by
    rw [splice_length (by simp; omega)]; simp; omega
  have h1 : ∀ (d : List Value) (k : Nat), k ≤ n → n ≤ d.length → d.drop k = (d.take n).drop k ++ d.drop n := by
    intro d k hk hn
    have := List.drop_append_of_le_length (l₁ := d.take n) (l₂ := d.drop n) (i := k) (by simp; omega)
    rw [List.take_append_drop] at this
    exact this
  have h2 := h1 (cs.drop m) (o + c.length) ho (by simp; omega)
  rw [List.drop_drop, List.drop_drop] at h2
  show cs.take m ++ splice ((cs.drop m).take n) o c ++ cs.drop (m + (splice ((cs.drop m).take n) o c).length) = cs.take (m + o) ++ c ++ cs.drop (m + o + c.length)
  rw [hl, show m + o + c.length = m + (o + c.length) by omega, h2, List.take_add]
  simp only [splice, List.append_assoc, List.take_take]
  rw [show min o n = o by omega]

theorem CRL_at {X : Cx} {s : Nat} {p : List Nat} : ∀ (l : List T) (i j : Nat) (cs : List Value) (t : T), l[i]? = some t → CRL X s p j l cs →
    CR X s (p ++ [j + i]) t ((cs.drop (T.sizeL (l.take i))).take t.size)
  | [], i, j, cs, t, hi, h => by simp at hi
  | x :: l, 0, j, cs, t, hi, h => by
    simp at hi; subst hi
    simp only [CRL] at h
    simpa [T.sizeL] using h.1
  | x :: l, i + 1, j, cs, t, hi, h => by
    simp at hi
    simp only [CRL] at h
    have := CRL_at l i (j + 1) _ t hi h.2
    rw [List.drop_drop] at this
    rw [show j + (i + 1) = j + 1 + i by omega]
    simpa [T.sizeL] using this

theorem CRL_put {X X' : Cx} {s : Nat} {p : List Nat} : ∀ (l : List T) (i j : Nat) (cs : List Value) (t t1 : T) (c1 : List Value), l[i]? = some t → CRL X s p j l cs →
    (∀ n, n ≠ j + i → Carry X X' s s (p ++ [n]) (p ++ [n])) → t1.size = t.size → c1.length = t.size → CR X' s (p ++ [j + i]) t1 c1 →
    CRL X' s p j (l.set i t1) (splice cs (T.sizeL (l.take i)) c1)
  | [], i, j, cs, t, t1, c1, hi, h, hc, hs, hl, h1 => by simp at hi
  | x :: l, 0, j, cs, t, t1, c1, hi, h, hc, hs, hl, h1 => by
    simp at hi; subst hi
    simp only [CRL] at h
    have hlen := CR_len X s x _ _ h.1
    simp only [List.length_take] at hlen
    have hA := splice_take (cs := cs) (o := 0) (n := x.size) (c := c1) (by omega) (by omega)
    simp only [List.set_cons_zero, CRL, List.take_zero, T.sizeL, hs]
    constructor
    · rw [hA]
      simp only [splice, List.take_zero, List.nil_append, Nat.zero_add]
      rw [List.drop_of_length_le (by simp; omega), List.append_nil]
      simpa using h1
    · have : (splice cs 0 c1).drop x.size = cs.drop x.size := by
        simp only [splice, List.take_zero, List.nil_append, Nat.zero_add]
        rw [List.drop_append, List.drop_of_length_le (by omega), List.nil_append, List.drop_drop]
        congr 1; omega
      rw [this]
      have key : ∀ (l : List T) (n : Nat) (cs : List Value), j < n → CRL X s p n l cs → CRL X' s p n l cs := by
        intro l
        induction l with
        | nil => intro n cs _ h; simpa only [CRL] using h
        | cons y l ih =>
          intro n cs hn h
          simp only [CRL] at h ⊢
          exact ⟨CR_carry X X' s s y _ _ _ (hc n (by omega)) h.1, ih (n + 1) _ (by omega) h.2⟩
      exact key l (j + 1) _ (by omega) h.2
  | x :: l, i + 1, j, cs, t, t1, c1, hi, h, hc, hs, hl, h1 => by
    simp at hi
    simp only [CRL] at h
    have hlen := CR_len X s x _ _ h.1
    simp only [List.length_take] at hlen
    have hA := splice_tail (cs := cs) (m := x.size) (o := T.sizeL (l.take i)) (c := c1) (by omega)
    have hB := CRL_put l i (j + 1) (cs.drop x.size) t t1 c1 hi h.2 (fun n hn => hc n (by omega)) hs hl (by rw [show j + 1 + i = j + (i + 1) by omega]; exact h1)
    simp only [List.set_cons_succ, CRL, List.take_succ_cons, T.sizeL]
    rw [hA.1, hA.2]
    exact ⟨CR_carry X X' s s x _ _ _ (hc j (by omega)) h.1, hB⟩

theorem CR_getI {X : Cx} {s : Nat} : ∀ (sub : List Nat) (t : T) (p : List Nat) (cs : List Value) (t0 : T), T.getI sub t = some t0 → CR X s p t cs →
    CR X s (p ++ sub) t0 ((cs.drop (T.offI sub t)).take t0.size) ∧ T.offI sub t + t0.size ≤ t.size
  | [], t, p, cs, t0, hg, h => by
    simp [T.getI] at hg; subst hg
    have := CR_len X s t p cs h
    refine ⟨?_, by cases t <;> simp [T.offI]⟩
    have hz : T.offI [] t = 0 := by cases t <;> rfl
    rw [hz, List.drop_zero, List.take_of_length_le (by omega)]
    simpa using h
  | i :: sub, .agg l, p, cs, t0, hg, h => by
    simp only [T.getI] at hg
    cases hl : l[i]? with
    | none => simp [hl] at hg
    | some x =>
      simp [hl] at hg
      simp only [CR] at h
      have h1 := CRL_at l i 0 cs x hl h
      simp only [Nat.zero_add] at h1
      obtain ⟨h2, h3⟩ := CR_getI sub x (p ++ [i]) _ t0 hg h1
      have hsz := sizeL_take_le l i x hl
      simp only [T.offI, hl, Option.map_some, Option.getD_some, T.size]
      refine ⟨?_, by omega⟩
      have e : ((List.drop (T.sizeL (List.take i l)) cs).take x.size).drop (T.offI sub x) = ((cs.drop (T.sizeL (l.take i) + T.offI sub x)).take (x.size - T.offI sub x)) := by
        rw [List.drop_take, List.drop_drop]
      rw [e, List.take_take, show min t0.size (x.size - T.offI sub x) = t0.size by omega] at h2
      simpa using h2
  | i :: sub, .int .., p, cs, t0, hg, h => by simp [T.getI] at hg
  | i :: sub, .bool .., p, cs, t0, hg, h => by simp [T.getI] at hg
  | i :: sub, .str .., p, cs, t0, hg, h => by simp [T.getI] at hg
  | i :: sub, .any, p, cs, t0, hg, h => by simp [T.getI] at hg
  | i :: sub, .nil, p, cs, t0, hg, h => by simp [T.getI] at hg
  | i :: sub, .sl .., p, cs, t0, hg, h => by simp [T.getI] at hg
  | i :: sub, .box .., p, cs, t0, hg, h => by simp [T.getI] at hg
  | i :: sub, .fptr .., p, cs, t0, hg, h => by simp [T.getI] at hg
  | i :: sub, .tup .., p, cs, t0, hg, h => by simp [T.getI] at hg
  | i :: sub, .fn .., p, cs, t0, hg, h => by simp [T.getI] at hg
  | i :: sub, .ref .., p, cs, t0, hg, h => by simp [T.getI] at hg
  | i :: sub, .addr .., p, cs, t0, hg, h => by simp [T.getI] at hg

theorem modify_eq_set {α : Type} (l : List α) (i : Nat) (f : α → α) (x : α) (h : l[i]? = some x) : l.modify i f = l.set i (f x) := by
  apply List.ext_getElem?
  intro j
  rw [List.getElem?_modify, List.getElem?_set]
  by_cases e : i = j
  · subst e
    obtain ⟨hlt, _⟩ := List.getElem?_eq_some_iff.1 h
    rw [List.getElem?_eq_getElem hlt] at h
    simp at h
    simp [hlt, h]
  · simp [e]

theorem getI_get : ∀ (sub : List Nat) (t t0 : T), T.getI sub t = some t0 → T.get sub t = some t0
  | [], t, t0, h => by simpa [T.getI, T.get] using h
  | i :: sub, .agg l, t0, h => by
    simp only [T.getI] at h
    cases hl : l[i]? with
    | none => simp [hl] at h
    | some x =>
      simp [hl] at h
      simp [T.get, hl, getI_get sub x t0 h]
  | i :: sub, .int .., t0, hg => by simp [T.getI] at hg
  | i :: sub, .bool .., t0, hg => by simp [T.getI] at hg
  | i :: sub, .str .., t0, hg => by simp [T.getI] at hg
  | i :: sub, .any, t0, hg => by simp [T.getI] at hg
  | i :: sub, .nil, t0, hg => by simp [T.getI] at hg
  | i :: sub, .sl .., t0, hg => by simp [T.getI] at hg
  | i :: sub, .box .., t0, hg => by simp [T.getI] at hg
  | i :: sub, .fptr .., t0, hg => by simp [T.getI] at hg
  | i :: sub, .tup .., t0, hg => by simp [T.getI] at hg
  | i :: sub, .fn .., t0, hg => by simp [T.getI] at hg
  | i :: sub, .ref .., t0, hg => by simp [T.getI] at hg
  | i :: sub, .addr .., t0, hg => by simp [T.getI] at hg

theorem CR_putI {X X' : Cx} {s : Nat} : ∀ (sub : List Nat) (t : T) (p : List Nat) (cs : List Value) (t0 t1 : T) (c1 : List Value), T.getI sub t = some t0 → CR X s p t cs →
    t1.size = t0.size → c1.length = t0.size → Around X X' s p sub → CR X' s (p ++ sub) t1 c1 →
    CR X' s p (T.set t1 sub t) (splice cs (T.offI sub t) c1)
  | [], t, p, cs, t0, t1, c1, hg, h, hs, hl, hA, h1 => by
    simp [T.getI] at hg; subst hg
    have := CR_len X s t p cs h
    have hz : T.offI [] t = 0 := by cases t <;> rfl
    simp only [T.set, hz, splice, List.take_zero, List.nil_append, Nat.zero_add]
    rw [List.drop_of_length_le (by omega), List.append_nil]
    simpa using h1
  | i :: sub, .agg l, p, cs, t0, t1, c1, hg, h, hs, hl, hA, h1 => by
    simp only [T.getI] at hg
    cases hx : l[i]? with
    | none => simp [hx] at hg
    | some x =>
      simp [hx] at hg
      simp only [CR] at h
      have h2 := CRL_at l i 0 cs x hx h
      simp only [Nat.zero_add] at h2
      have h3 := CR_putI (X' := X') sub x (p ++ [i]) _ t0 t1 c1 hg h2 hs hl hA.down (by simpa using h1)
      have h4 := (CR_getI sub x (p ++ [i]) _ t0 hg h2).2
      have hsz := sizeL_take_le l i x hx
      have hlen := CRL_len X s l p 0 cs h
      have hxs : (T.set t1 sub x).size = x.size := T.size_set t1 sub x t0 (getI_get sub x t0 hg) hs
      have hlx : (splice ((cs.drop (T.sizeL (l.take i))).take x.size) (T.offI sub x) c1).length = x.size := by
        have := CR_len X' s _ _ _ h3
        rw [this, hxs]
      have h5 := CRL_put (X' := X') l i 0 cs x (T.set t1 sub x) _ hx h (fun n hn => hA.carry (by omega)) hxs hlx (by simpa using h3)
      simp only [T.set, CR, T.offI, hx, Option.map_some, Option.getD_some]
      rw [modify_eq_set l i _ x hx]
      have e : splice cs (T.sizeL (l.take i)) (splice ((cs.drop (T.sizeL (l.take i))).take x.size) (T.offI sub x) c1) = splice cs (T.sizeL (l.take i) + T.offI sub x) c1 := by
        have hoc : T.offI sub x + c1.length ≤ x.size := by omega
        exact splice_splice _ _ _ _ _ (by omega) hoc
      rw [← e]
      exact h5
  | i :: sub, .int .., p, cs, t0, t1, c1, hg, h, hs, hl, hA, h1 => by simp [T.getI] at hg
  | i :: sub, .bool .., p, cs, t0, t1, c1, hg, h, hs, hl, hA, h1 => by simp [T.getI] at hg
  | i :: sub, .str .., p, cs, t0, t1, c1, hg, h, hs, hl, hA, h1 => by simp [T.getI] at hg
  | i :: sub, .any, p, cs, t0, t1, c1, hg, h, hs, hl, hA, h1 => by simp [T.getI] at hg
  | i :: sub, .nil, p, cs, t0, t1, c1, hg, h, hs, hl, hA, h1 => by simp [T.getI] at hg
  | i :: sub, .sl .., p, cs, t0, t1, c1, hg, h, hs, hl, hA, h1 => by simp [T.getI] at hg
  | i :: sub, .box .., p, cs, t0, t1, c1, hg, h, hs, hl, hA, h1 => by simp [T.getI] at hg
  | i :: sub, .fptr .., p, cs, t0, t1, c1, hg, h, hs, hl, hA, h1 => by simp [T.getI] at hg
  | i :: sub, .tup .., p, cs, t0, t1, c1, hg, h, hs, hl, hA, h1 => by simp [T.getI] at hg
  | i :: sub, .fn .., p, cs, t0, t1, c1, hg, h, hs, hl, hA, h1 => by simp [T.getI] at hg
  | i :: sub, .ref .., p, cs, t0, t1, c1, hg, h, hs, hl, hA, h1 => by simp [T.getI] at hg
  | i :: sub, .addr .., p, cs, t0, t1, c1, hg, h, hs, hl, hA, h1 => by simp [T.getI] at hg

end Go.Proofs.Ytjkhggbjkkobaaa

import Derived.Test.YtapdekacpecgiaaGreatGC
import Derived.Orders
namespace Go.Proofs.YtapdekacpecgiaaGreat
open Go.RowKit
set_option linter.unusedVariables false
set_option linter.unusedSimpArgs false
set_option linter.constructorNameAsVariable false
section
def argCx (P : Program) (w : World) (κ : Kap) : Cx where
 sz := P.cellsOf
 w := w
 F := fun b => b < w.heap.size ∧ κ b = none
 kap := κ
 old := fun _ _ => False
 node := fun _ _ _ => False
def resCx (P : Program) (w : World) (κ : Kap) : Cx where
 sz := P.cellsOf
 w := w
 F := fun _ => False
 kap := κ
 old := fun _ _ => False
 node := fun _ _ _ => False
structure Back (P : Program) (w : World) (κ : Kap) (r : T) (v : Value) (w' : World) (κ' : Kap) : Prop where
 os : w'.os = w.os
 tape : w'.tape = w.tape
 output : w'.output = w.output
 size : w.heap.size ≤ w'.heap.size
 kept : ∀ b, b < w.heap.size → κ b = none → w'.heap[b]? = w.heap[b]?
 col : ∀ b s p v, κ' b = some (s, p, v) → b < w'.heap.size ∧ (w.heap.size ≤ b ∨ κ b ≠ none)
 inj : ∀ b b' s p v v', κ' b = some (s, p, v) → κ' b' = some (s, p, v') → b = b'
 refFree : r.refFree = true
 res : VR (resCx P w' κ') 0 r v
def AFo (P : Program) (f : FuncId) (args : List T) (r : T) : Prop :=
 (∃ fn, P.funcs[f]? = some fn ∧ (fn.name == "runtime.NumGoroutine") = false ∧ fn.body.isNone = false) ∧
 ∀ (w : World) (vs : List Value) (κ : Kap), (∀ b s p v, κ b = some (s, p, v) → b < w.heap.size) → (∀ b b' s p v v', κ b = some (s, p, v) → κ b' = some (s, p, v') → b = b') →
  vs.length = args.length → (∀ (j : Nat) (t : T) (v : Value), args[j]? = some t → vs[j]? = some v → t.refFree = true ∧ VR (argCx P w κ) j t v) →
  Calls P f vs.toArray w (fun e w' => ∃ v κ', e = .returned v ∧ Back P w κ r v w' κ')
def Shape (A A' : T) : Prop := (A.isNode = true ∧ A'.isNode = true) ∨
 ∃ l l', A = .agg l ∧ A' = .agg l' ∧ (∀ j, T.sizeL (l'.take j) = T.sizeL (l.take j)) ∧ ∀ (j : Nat) (t : T), l[j]? = some t → t.isNode = true → ∃ t', l'[j]? = some t' ∧ t'.isNode = true
def AFio (P : Program) (f : FuncId) (args : List T) (r : T) : Prop :=
 (∃ fn, P.funcs[f]? = some fn ∧ (fn.name == "runtime.NumGoroutine") = false ∧ fn.body.isNone = false) ∧
 ∃ A ku nu k1 n1 A', args = [A, .int ku nu] ∧ r = .tup [.int k1 n1, A'] ∧ A'.refFree = true ∧ Shape A A' ∧
 ∀ (w : World) (v : Value) (κ : Kap), (∀ b s p v, κ b = some (s, p, v) → b < w.heap.size) → (∀ b b' s p v v', κ b = some (s, p, v) → κ b' = some (s, p, v') → b = b') →
  A.refFree = true → VR (argCx P w κ) 0 A v →
  Calls P f #[v, .int ku nu] w (fun e w' => e = .returned (.int k1 n1) ∧ w'.os = w.os ∧ w'.tape = w.tape ∧ w'.output = w.output ∧ w.heap.size ≤ w'.heap.size ∧
   (∀ b, b < w.heap.size → κ b = none → w'.heap[b]? = w.heap[b]?) ∧ VR (resCx P w' κ) 0 A' v)
def AFw (P : Program) (f : FuncId) (args : List T) (r : T) : Prop :=
 (∃ fn, P.funcs[f]? = some fn ∧ (fn.name == "runtime.NumGoroutine") = false ∧ fn.body.isNone = false) ∧
 ∃ (k : Nat) (e : TypeId) (l : List T), r = .tup [.int .i64 k, .sl true e l] ∧ k < l.length ∧ P.cellsOf e = 1 ∧ (∀ t ∈ l, t.scalar = true) ∧
 ∀ (w : World) (vs : List Value), vs.length = args.length → (∀ (j : Nat) (t : T) (v : Value), args[j]? = some t → vs[j]? = some v → t.pure = true ∧ VR (argCx P w (fun _ => none)) j t v) →
  Calls P f vs.toArray w (fun x w' => ∃ b cap κ', x = .returned (.slice (some ⟨b, k, none⟩) (l.length - k) (cap - k)) ∧ Back P w (fun _ => none) (.sl true e l) (.slice (some ⟨b, 0, none⟩) l.length cap) w' κ')
def AFwt (P : Program) (f : FuncId) (args : List T) (r : T) : Prop :=
 (∃ kk nn, r = .tup [.nil, .int kk nn] ∧ AFo P f args r) ∨
 ((∃ fn, P.funcs[f]? = some fn ∧ (fn.name == "runtime.NumGoroutine") = false ∧ fn.body.isNone = false) ∧
 ∃ (k : Nat) (e : TypeId) (l : List T) (kk : IntKind) (nn : Int), r = .tup [.int .i64 k, .sl true e l, .int kk nn] ∧ k < l.length ∧ P.cellsOf e = 1 ∧ (∀ t ∈ l, t.scalar = true) ∧
 ∀ (w : World) (vs : List Value), vs.length = args.length → (∀ (j : Nat) (t : T) (v : Value), args[j]? = some t → vs[j]? = some v → t.pure = true ∧ VR (argCx P w (fun _ => none)) j t v) →
  Calls P f vs.toArray w (fun x w' => ∃ b cap κ', x = .returned (.tuple #[.slice (some ⟨b, k, none⟩) (l.length - k) (cap - k), .int kk nn]) ∧ Back P w (fun _ => none) (.sl true e l) (.slice (some ⟨b, 0, none⟩) l.length cap) w' κ'))
def AFit (P : Program) (f : FuncId) (args : List T) (r : T) : Prop :=
 (∃ fn, P.funcs[f]? = some fn ∧ (fn.name == "runtime.NumGoroutine") = false ∧ fn.body.isNone = false) ∧
 ∃ (e : TypeId) (l l' : List T) (ku : IntKind) (nu : Int) (off : Nat) (k1 : IntKind) (n1 : Int), args = [.sl true e l, .int ku nu, .int .i64 off] ∧ r = .tup [.int k1 n1, .sl true e l'] ∧ T.refFreeL l' = true ∧ (∀ t ∈ l', t.scalar = true) ∧
 ∀ (w : World) (b c : Nat) (κ : Kap), (∀ b s p v, κ b = some (s, p, v) → b < w.heap.size) → (∀ b b' s p v v', κ b = some (s, p, v) → κ b' = some (s, p, v') → b = b') →
  VR (argCx P w κ) 0 (.sl true e l) (.slice (some ⟨b, 0, none⟩) l.length c) →
  Calls P f #[.slice (some ⟨b, off, none⟩) (l.length - off) (c - off), .int ku nu] w (fun x w' => x = .returned (.int k1 n1) ∧ w'.os = w.os ∧ w'.tape = w.tape ∧ w'.output = w.output ∧ w.heap.size ≤ w'.heap.size ∧
   (∀ b, b < w.heap.size → κ b = none → w'.heap[b]? = w.heap[b]?) ∧ VR (resCx P w' κ) 0 (.sl true e l') (.slice (some ⟨b, 0, none⟩) l.length c))
def boxK (b : Nat) : Kap := fun c => if c = b then some (0, [], .pointer (some ⟨b, 0, none⟩)) else none
def AFg (P : Program) (f : FuncId) (args : List T) (r : T) : Prop :=
 (∃ fn, P.funcs[f]? = some fn ∧ (fn.name == "runtime.NumGoroutine") = false ∧ fn.body.isNone = false) ∧
 ∃ (e : TypeId) (ts ts' rest : List T) (g r1 : T), args = g :: .box e (.agg ts) :: rest ∧ r = .tup [r1, .box e (.agg ts')] ∧ (∀ t ∈ ts, t.scalar = true) ∧ (∀ t ∈ ts', t.scalar = true) ∧ ts'.length = ts.length ∧
 ∀ (w : World) (b : Nat) (cur : Array Value) (vg : Value) (vs : List Value), w.heap[b]? = some (.cells cur e (0, 0)) → cur.size = ts.length → P.cellsOf e = ts.length →
  (∀ (j : Nat) (t : T) (v : Value), ts[j]? = some t → cur[j]? = some v → ∀ (X : Cx) (s : Nat) (p : List Nat), CR X s p t [v]) →
  g.pure = true → (∀ s, VR (argCx P w (boxK b)) s g vg) → vs.length = rest.length →
  (∀ (j : Nat) (t : T) (v : Value), rest[j]? = some t → vs[j]? = some v → t.pure = true ∧ ∀ s, VR (argCx P w (boxK b)) s t v) →
  Calls P f (.pointer (some ⟨b, 0, none⟩) :: vs).toArray w (fun x w' => ∃ v κ' cur', x = .returned v ∧ Back P w (boxK b) r1 v w' κ' ∧ κ' b = none ∧ w'.heap[b]? = some (.cells cur' e (0, 0)) ∧ cur'.size = ts'.length ∧
   ∀ (j : Nat) (t : T) (v : Value), ts'[j]? = some t → cur'[j]? = some v → ∀ (X : Cx) (s : Nat) (p : List Nat), CR X s p t [v])
def AFk (P : Program) (f : FuncId) (args : List T) (r : T) : Prop :=
 (∃ fn, P.funcs[f]? = some fn ∧ (fn.name == "runtime.NumGoroutine") = false ∧ fn.body.isNone = false) ∧
 ∃ (e : TypeId) (t t' : T) (j : Nat) (A : T) (rest : List T) (r1 : T), args = .box e t :: .int .i64 j :: A :: rest ∧ r = .tup [r1, .box e t'] ∧ r1.scalar = true ∧
 ∀ (w : World) (b : Nat) (vA : Value) (vs : List Value) (κ : Kap), (∀ c s p v, κ c = some (s, p, v) → c < w.heap.size ∧ (s = 0 ∨ s = 1)) → (∀ c c' s p v v', κ c = some (s, p, v) → κ c' = some (s, p, v') → c = c') →
  (T.box e t).refFree = true → VR (argCx P w κ) 0 (.box e t) (.pointer (some ⟨b, 0, none⟩)) → A.refFree = true → VR (argCx P w κ) 1 A vA → vs.length = rest.length →
  (∀ (i : Nat) (y : T) (v : Value), rest[i]? = some y → vs[i]? = some v → y.pure = true ∧ ∀ s, VR (argCx P w κ) s y v) →
  Calls P f (vA :: (vs.take j ++ Value.pointer (some ⟨b, 0, none⟩) :: vs.drop j)).toArray w (fun z w' => ∃ v κ', z = .returned v ∧ (∀ (X : Cx) (s : Nat) (p : List Nat), CR X s p r1 [v]) ∧ Back P w κ (.box e t') (.pointer (some ⟨b, 0, none⟩)) w' κ' ∧
   (calm t t' = true → ∀ c q v nd, T.get q (.box e t') = some nd → nd.isNode = true → κ c = some (0, q, v) → κ' c = some (0, q, v)))
def kapB (b : Nat) (κ : Kap) : Kap := fun c => if c = b then some (1, [], .pointer (some ⟨b, 0, none⟩)) else κ c
def AFc (P : Program) (f : FuncId) (args : List T) (r : T) : Prop :=
 (∃ fn, P.funcs[f]? = some fn ∧ (fn.name == "runtime.NumGoroutine") = false ∧ fn.body.isNone = false) ∧
 ∃ (e : TypeId) (l l' : List T) (e2 : TypeId) (t t' : T) (j : Nat) (km : IntKind) (m : Int) (ku : IntKind) (nu : Int) (g : FuncId) (fs : List T) (r1 : T),
  args = [.sl true e l, .box e2 t, .int .i64 j, .int km m, .int ku nu, .fn g fs] ∧ r = .tup [r1, .sl true e l', .box e2 t'] ∧ g < 1000000 ∧ P.cellsOf e = 1 ∧ l'.length = l.length ∧ (∀ y ∈ l, y.scalar = true) ∧ (∀ y ∈ l', y.scalar = true) ∧ r1.scalar = true ∧
 ∀ (w : World) (b cap : Nat) (cur : Array Value) (b2 : Nat) (vs : List Value) (κ : Kap), κ b = none → (∀ c s p v, κ c = some (s, p, v) → c < w.heap.size ∧ s = 0) → (∀ c c' s p v v', κ c = some (s, p, v) → κ c' = some (s, p, v') → c = c') →
  w.heap[b]? = some (.cells cur e (0, 0)) → l.length ≤ cap → cap ≤ maxLen → cur.size = cap →
  (∀ (j : Nat) (y : T) (v : Value), l[j]? = some y → cur[j]? = some v → ∀ (X : Cx) (s : Nat) (p : List Nat), CR X s p y [v]) →
  (T.box e2 t).refFree = true → VR (argCx P w (kapB b κ)) 0 (.box e2 t) (.pointer (some ⟨b2, 0, none⟩)) → vs.length = fs.length →
  (∀ (j : Nat) (y : T) (v : Value), fs[j]? = some y → vs[j]? = some v → y.pure = true ∧ ∀ s, VR (argCx P w (kapB b κ)) s y v) →
  Calls P f #[.agg #[.int km m, .slice (some ⟨b, 0, none⟩) l.length cap], .int ku nu, fnVal g (vs.take j ++ .pointer (some ⟨b2, 0, none⟩) :: vs.drop j)] w (fun z w' => ∃ v cur' κ', z = .returned v ∧ (∀ (X : Cx) (s : Nat) (p : List Nat), CR X s p r1 [v]) ∧
   Back P w (kapB b κ) (.box e2 t') (.pointer (some ⟨b2, 0, none⟩)) w' κ' ∧ κ' b = none ∧ w'.heap[b]? = some (.cells cur' e (0, 0)) ∧ cur'.size = cap ∧
   (∀ (j : Nat) (y : T) (v : Value), l'[j]? = some y → cur'[j]? = some v → ∀ (X : Cx) (s : Nat) (p : List Nat), CR X s p y [v]) ∧
   (calm t t' = true → ∀ c q v nd, T.get q (.box e2 t') = some nd → nd.isNode = true → κ c = some (0, q, v) → κ' c = some (0, q, v)))
def AFx (P : Program) (f : FuncId) (args : List T) (r : T) : Prop :=
 (∃ fn, P.funcs[f]? = some fn ∧ (fn.name == "runtime.NumGoroutine") = false ∧ fn.body.isNone = false) ∧
 ∃ (jw : Nat) (A : T) (rest : List T) (r1 : T) (v1 : Value) (A' : T), args = .int .i64 jw :: A :: rest ∧ r = .tup [r1, A'] ∧ r1.noOwn = true ∧ (∀ (X : Cx) (s : Nat), VR X s r1 v1) ∧ Shape A A' ∧
 ∀ (w : World) (v : Value) (vs : List Value) (κ : Kap), (∀ b s p v, κ b = some (s, p, v) → b < w.heap.size ∧ s = 0) → (∀ b b' s p v v', κ b = some (s, p, v) → κ b' = some (s, p, v') → b = b') →
  A.refFree = true → VR (argCx P w κ) 0 A v → vs.length = rest.length → (∀ (j : Nat) (y : T) (u : Value), rest[j]? = some y → vs[j]? = some u → y.pure = true ∧ ∀ s, VR (argCx P w κ) s y u) →
  Calls P f (vs.take jw ++ v :: vs.drop jw).toArray w (fun e w' => ∃ κ', e = .returned v1 ∧ Back P w κ A' v w' κ')
def AFn (P : Program) (f : FuncId) (args : List T) (r : T) : Prop := if f < 1000000 then AFo P f args r else if f < 2000000 then AFio P (f - 1000000) args r else if f < 3000000 then AFw P (f - 2000000) args r else if f < 4000000 then AFwt P (f - 3000000) args r else if f < 5000000 then AFit P (f - 4000000) args r else if f < 6000000 then AFg P (f - 5000000) args r else if f < 7000000 then AFk P (f - 6000000) args r else if f < 8000000 then AFc P (f - 7000000) args r else AFx P (f - 8000000) args r
theorem Gj {P : Program} {f : FuncId} {args : List T} {r : T} (h : f < 1000000) : AFn P f args r ↔ AFo P f args r := by rw [AFn, if_pos h]
theorem Ag1 {P : Program} {f : FuncId} {args : List T} {r : T} (h : f < 1000000) : AFn P (5000000 + f) args r ↔ AFg P f args r := by
 rw [AFn, if_neg (Nat.not_lt_of_le (Nat.le_trans (by decide) (Nat.le_add_right 5000000 f))), if_neg (Nat.not_lt_of_le (Nat.le_trans (by decide) (Nat.le_add_right 5000000 f))), if_neg (Nat.not_lt_of_le (Nat.le_trans (by decide) (Nat.le_add_right 5000000 f))), if_neg (Nat.not_lt_of_le (Nat.le_trans (by decide) (Nat.le_add_right 5000000 f))), if_neg (Nat.not_lt_of_le (Nat.le_add_right 5000000 f)), if_pos (Nat.add_lt_add_left h 5000000), show 5000000 + f - 5000000 = f from Nat.add_sub_cancel_left 5000000 f]
theorem Ago {P : Program} {f : FuncId} {args : List T} {r : T} : AFn P (8000000 + f) args r ↔ AFx P f args r := by
 rw [AFn, if_neg (Nat.not_lt_of_le (Nat.le_trans (by decide) (Nat.le_add_right 8000000 f))), if_neg (Nat.not_lt_of_le (Nat.le_trans (by decide) (Nat.le_add_right 8000000 f))), if_neg (Nat.not_lt_of_le (Nat.le_trans (by decide) (Nat.le_add_right 8000000 f))), if_neg (Nat.not_lt_of_le (Nat.le_trans (by decide) (Nat.le_add_right 8000000 f))), if_neg (Nat.not_lt_of_le (Nat.le_trans (by decide) (Nat.le_add_right 8000000 f))), if_neg (Nat.not_lt_of_le (Nat.le_trans (by decide) (Nat.le_add_right 8000000 f))), if_neg (Nat.not_lt_of_le (Nat.le_trans (by decide) (Nat.le_add_right 8000000 f))), if_neg (Nat.not_lt_of_le (Nat.le_add_right 8000000 f)), show 8000000 + f - 8000000 = f from Nat.add_sub_cancel_left 8000000 f]
mutual
theorem Cf : ∀ (t : T), t.pure = true → t.refFree = true
 | .int .., _ => rfl
 | .bool .., _ => rfl
 | .str .., _ => rfl
 | .any, _ => rfl
 | .nil, _ => rfl
 | .sl true _ _, h => by simp [T.pure] at h
 | .win .., h => by simp [T.pure] at h
 | .sl false _ l, h => by simpa [T.refFree] using Bp l (by simpa [T.pure] using h)
 | .box .., h => by simp [T.pure] at h
 | .fptr t, h => by simpa [T.refFree] using Cf t (by simpa [T.pure] using h)
 | .agg l, h => by simpa [T.refFree] using Bp l (by simpa [T.pure] using h)
 | .tup l, h => by simpa [T.refFree] using Bp l (by simpa [T.pure] using h)
 | .fn _ l, h => by simpa [T.refFree] using Bp l (by simpa [T.pure] using h)
 | .ref .., h => by simp [T.pure] at h
 | .addr .., h => by simp [T.pure] at h
theorem Bp : ∀ (l : List T), T.pureL l = true → T.refFreeL l = true
 | [], _ => rfl
 | t :: l, h => by
  simp only [T.pureL, Bool.and_eq_true] at h
  simp [T.refFreeL, Cf t h.1, Bp l h.2]
end
section
variable {C : Ctx} {env : Env} {V : Nat → Value} {w : World} {κ : Kap} {a : Act} {AF : FuncId → List T → T → Prop} {U : List (Nat × Slot)} {R : List Nat} {n : Nat}
variable {tt : Tt} {P : Program}
def seen (C : Ctx) (w : World) : Cx := argCx C.P w (fun _ => none)
theorem Ui (hI : Inv C env V w κ) {κt : Kap} {s9 : Nat} (hκ : ∀ c, κt c ≠ none → ∃ p v, κ c = some (s9, p, v)) {b : Nat} (hb : C.F b) : b < w.heap.size ∧ κt b = none :=
 ⟨Nat.lt_of_lt_of_le hb.1 hI.size, by
  cases hc : κt b with
  | none => rfl
  | some y =>
   obtain ⟨p, v, e⟩ := hκ b (by rw [hc]; exact fun h => by cases h)
   exact absurd hb (hI.col b _ _ _ e).2⟩
theorem Lj (hI : Inv C env V w κ) {κt : Kap} {s9 : Nat} (hκ : ∀ c, κt c ≠ none → ∃ p v, κ c = some (s9, p, v)) {s : Nat} (hs : (∃ c, κt c ≠ none) → s ≠ s9) {p : List Nat} {t : T} {cs : List Value} (hr : t.refFree = true) (h : CR (cx C env w κ) s p t cs) (s' : Nat) (p' : List Nat) :
  CR (argCx C.P w κt) s' p' t.freeze cs ∧ t.freeze.pure = true :=
 Fa (X := cx C env w κ) (X' := argCx C.P w κt) rfl (fun _ _ => rfl) (fun _ hb => Ui hI hκ hb) t p p' cs hr (fun c r v hk => ⟨(hI.col _ _ _ _ hk).1, by
  cases hc : κt c with
  | none => rfl
  | some y =>
   have hne : κt c ≠ none := by rw [hc]; exact fun h => by cases h
   obtain ⟨p1, v1, e⟩ := hκ c hne
   have hk' : κ c = some (s, p ++ r, v) := hk
   rw [e] at hk'
   simp only [Option.some.injEq, Prod.mk.injEq] at hk'
   exact absurd hk'.1.symm (hs ⟨c, hne⟩)⟩) h
mutual
theorem Ij (hI : Inv C env V w κ) {κt : Kap} {s9 : Nat} (hκ : ∀ c, κt c ≠ none → ∃ p v, κ c = some (s9, p, v)) : ∀ (v : T) (s : Nat) (p : List Nat) (cs : List Value) (c : T → Rd) (R : List Nat), ((∃ c, κt c ≠ none) → v.away s9) → CR (cx C env w κ) s p v cs → (resolve v c).sat AF env U R →
  ∃ v' R', (c v').sat AF env U R' ∧ v'.pure = true ∧ v'.isAgg = v.isAgg ∧ v'.size = v.size ∧ ∀ s' p', CR (argCx C.P w κt) s' p' v' cs
 | .ref s k q, s0, p0, cs, c, R, haw, h, hs => by
  simp only [resolve] at hs
  obtain ⟨T0, nd, R', hl, hg, hn, h1⟩ := Bm hs
  obtain ⟨b, cap, cur, e1, e2, e3, e4⟩ := hI.ref_eq hl hg hn h
  have hr := Bh q T0 nd hg (hI.own s k T0 hl).1
  have hf := Lj hI hκ (fun h => by simpa [T.away] using haw h) hr e2
  exact ⟨nd.freeze, R', h1, (hf 0 []).2, by rw [K5, Cv hn]; rfl, by rw [Dq, B4 hn]; rfl, fun s' p' => (hf s' p').1⟩
 | .addr s k q off sub, s0, p0, cs, c, R, haw, h, hs => by
  simp only [resolve] at hs
  split at hs
  ·rename_i hsub
   obtain ⟨T0, nd, R', hl, hg, hn, h1⟩ := Bm hs
   simp only [Rd.sat] at h1
   obtain ⟨rfl, h2⟩ := h1
   obtain ⟨b, cap, cur, e1, e2, e3, e4⟩ := hI.addr_eq hl hg hn h
   cases nd <;> try (simp [T.isNode] at hn; done)
   case sl => simp [Rd.sat] at h2
   case win => simp [Rd.sat] at h2
   case box e t =>
    have hr := Bh q T0 _ hg (hI.own s k T0 hl).1
    have hf := Lj hI hκ (fun h => by simpa [T.away] using haw h) hr e2
    simp only [headOf] at hf
    rw [e1, hsub]
    exact ⟨_, R', h2, (hf 0 []).2, rfl, rfl, fun s' p' => (hf s' p').1⟩
  ·split at hs
   ·rename_i hemp
    have hsub : sub = [] := by simpa using hemp
    subst hsub
    obtain ⟨T0, nd, R', hl, hg, hn, h1⟩ := Bm hs
    obtain ⟨b, cap, cur, e1, e2, e3, e4⟩ := hI.addr_eq hl hg hn h
    have hr := Bh q T0 _ hg (hI.own s k T0 hl).1
    have hf := Lj hI hκ (fun h => by simpa [T.away] using haw h) hr e2
    split at h1
    ·rename_i e l
     simp only [Rd.sat] at h1
     obtain ⟨⟨c1, c2⟩, h2⟩ := h1
     have ha : ∀ t ∈ l, t.scalar = true := fun t ht => List.all_eq_true.1 c2 t ht
     rw [Iz ha] at h2
     rw [e1]
     refine ⟨_, R', h2, ?_, rfl, rfl, fun s' p' => ?_⟩
     ·simp only [T.pure, Bool.not_false, Bool.true_and]
      rw [Db]
      intro t ht
      have := ha t (List.mem_of_mem_drop ht)
      cases t <;> first | rfl | (simp [T.scalar] at this)
     ·have h3 := (hf 0 []).1
      simp only [headOf, T.freeze] at h3
      rw [Iz ha] at h3
      exact Afa rfl rfl (fun _ h => h) ha c1 h3
    ·simp [Rd.sat] at h1
   ·simp [Rd.sat] at hs
 | .agg l, s0, p0, cs, c, R, haw, h, hs => by
  simp only [resolve] at hs
  simp only [CR] at h
  obtain ⟨l', R', h1, h2, h3, h4⟩ := Ly hI hκ l s0 p0 0 cs _ R (fun h => by simpa [T.away] using haw h) h hs
  exact ⟨.agg l', R', h1, by simpa [T.pure] using h2, rfl, by simpa [T.size] using h3, fun s' p' => by simp only [CR]; exact h4 s' p' 0⟩
 | .fn f l, s0, p0, cs, c, R, haw, h, hs => by
  simp only [resolve] at hs
  simp only [CR] at h
  obtain ⟨vs, hcs, hC⟩ := h
  obtain ⟨l', R', h1, h2, h4⟩ := E5 hI hκ l s0 p0 0 vs _ R (fun h => by simpa [T.away] using haw h) hC hs
  exact ⟨.fn f l', R', h1, by simpa [T.pure] using h2, rfl, rfl, fun s' p' => by simp only [CR]; exact ⟨vs, hcs, h4 s' p' 0⟩⟩
 | .sl false e l, s0, p0, cs, c, R, haw, h, hs => by
  simp only [resolve] at hs
  have h' := h
  simp only [CR] at h'
  obtain ⟨_, _, _, _, _, _, hp, _⟩ := h'
  refine ⟨_, R, hs, by simpa [T.pure] using hp, rfl, rfl, fun s' p' => ?_⟩
  exact Ea (X := cx C env w κ) (X' := argCx C.P w κt) rfl (fun _ _ => rfl) (fun b hb => Ui hI hκ hb) (.sl false e l) p0 p' cs (by simpa [T.pure] using hp) h
 | .fptr t, s0, p0, cs, c, R, haw, h, hs => by
  simp only [resolve] at hs
  have h' := h
  simp only [CR] at h'
  obtain ⟨_, _, _, _, _, _, _, _, _, hp, _⟩ := h'
  refine ⟨_, R, hs, by simpa [T.pure] using hp, rfl, rfl, fun s' p' => ?_⟩
  exact Ea (X := cx C env w κ) (X' := argCx C.P w κt) rfl (fun _ _ => rfl) (fun b hb => Ui hI hκ hb) (.fptr t) p0 p' cs (by simpa [T.pure] using hp) h
 | .int k m, s0, p0, cs, c, R, haw, h, hs => ⟨_, R, hs, rfl, rfl, rfl, fun s' p' => by simpa only [CR] using h⟩
 | .bool b, s0, p0, cs, c, R, haw, h, hs => ⟨_, R, hs, rfl, rfl, rfl, fun s' p' => by simpa only [CR] using h⟩
 | .str b, s0, p0, cs, c, R, haw, h, hs => ⟨_, R, hs, rfl, rfl, rfl, fun s' p' =>
  Ea (X := cx C env w κ) (X' := argCx C.P w κt) rfl (fun _ _ => rfl) (fun b hb => Ui hI hκ hb) (.str b) p0 p' cs rfl h⟩
 | .nil, s0, p0, cs, c, R, haw, h, hs => ⟨_, R, hs, rfl, rfl, rfl, fun s' p' => by simpa only [CR] using h⟩
 | .any, s0, p0, cs, c, R, haw, h, hs => by simp [resolve, Rd.sat] at hs
 | .sl true e l, s0, p0, cs, c, R, haw, h, hs => by simp [resolve, Rd.sat] at hs
 | .win .., s0, p0, cs, c, R, haw, h, hs => by simp [resolve, Rd.sat] at hs
 | .box e t, s0, p0, cs, c, R, haw, h, hs => by simp [resolve, Rd.sat] at hs
 | .tup l, s0, p0, cs, c, R, haw, h, hs => by simp [resolve, Rd.sat] at hs
theorem Ly (hI : Inv C env V w κ) {κt : Kap} {s9 : Nat} (hκ : ∀ c, κt c ≠ none → ∃ p v, κ c = some (s9, p, v)) : ∀ (l : List T) (s : Nat) (p : List Nat) (i : Nat) (cs : List Value) (c : List T → Rd) (R : List Nat), ((∃ c, κt c ≠ none) → T.awayL s9 l) → CRL (cx C env w κ) s p i l cs → (resolveL l c).sat AF env U R →
  ∃ l' R', (c l').sat AF env U R' ∧ T.pureL l' = true ∧ T.sizeL l' = T.sizeL l ∧ ∀ s' p' i', CRL (argCx C.P w κt) s' p' i' l' cs
 | [], s, p, i, cs, c, R, haw, h, hs => ⟨[], R, hs, rfl, rfl, fun s' p' i' => by simpa only [CRL] using h⟩
 | t :: l, s, p, i, cs, c, R, haw, h, hs => by
  simp only [resolveL] at hs
  simp only [CRL] at h
  obtain ⟨t', R1, h1, h2, h3, h4, h5⟩ := Ij hI hκ t s _ _ _ R (fun h => (haw h).1) h.1 hs
  obtain ⟨l', R2, g1, g2, g3, g4⟩ := Ly hI hκ l s p (i + 1) _ _ R1 (fun h => (haw h).2) h.2 h1
  exact ⟨t' :: l', R2, g1, by simp [T.pureL, h2, g2], by simp [T.sizeL, h4, g3], fun s' p' i' => by
   simp only [CRL, h4]; exact ⟨h5 s' _, g4 s' p' (i' + 1)⟩⟩
theorem E5 (hI : Inv C env V w κ) {κt : Kap} {s9 : Nat} (hκ : ∀ c, κt c ≠ none → ∃ p v, κ c = some (s9, p, v)) : ∀ (l : List T) (s : Nat) (p : List Nat) (i : Nat) (vs : List Value) (c : List T → Rd) (R : List Nat), ((∃ c, κt c ≠ none) → T.awayL s9 l) → CRT (cx C env w κ) s p i l vs → (resolveL l c).sat AF env U R →
  ∃ l' R', (c l').sat AF env U R' ∧ T.pureL l' = true ∧ ∀ s' p' i', CRT (argCx C.P w κt) s' p' i' l' vs
 | [], s, p, i, cs, c, R, haw, h, hs => ⟨[], R, hs, rfl, fun s' p' i' => by simpa only [CRT] using h⟩
 | t :: l, s, p, i, vs, c, R, haw, h, hs => by
  simp only [resolveL] at hs
  simp only [CRT] at h
  obtain ⟨⟨v, cs, e1, e2, e3⟩, h'⟩ := h
  obtain ⟨t', R1, h1, h2, h3, h4, h5⟩ := Ij hI hκ t s _ _ _ R (fun h => (haw h).1) e3 hs
  obtain ⟨l', R2, g1, g2, g4⟩ := E5 hI hκ l s p (i + 1) _ _ R1 (fun h => (haw h).2) h' h1
  exact ⟨t' :: l', R2, g1, by simp [T.pureL, h2, g2], fun s' p' i' => by
   simp only [CRT]; exact ⟨⟨v, cs, e1, by rw [e2]; exact Cq h3.symm cs, h5 s' _⟩, g4 s' p' (i' + 1)⟩⟩
end
theorem Fp (hI : Inv C env V w κ) {κt : Kap} {s9 : Nat} (hκ : ∀ c, κt c ≠ none → ∃ p v, κ c = some (s9, p, v)) : ∀ (l : List T) (us : List Value) (c : List T → Rd) (R : List Nat), ((∃ c, κt c ≠ none) → T.awayL s9 l) → l.length = us.length → (∀ (j : Nat) (t : T) (u : Value), l[j]? = some t → us[j]? = some u → HV (cx C env w κ) t u) → (resolveL l c).sat AF env U R →
  ∃ l' R', (c l').sat AF env U R' ∧ l'.length = us.length ∧ ∀ (j : Nat) (t : T) (u : Value), l'[j]? = some t → us[j]? = some u → t.pure = true ∧ ∀ s', VR (argCx C.P w κt) s' t u
 | [], us, c, R, haw, hl, _, hs => ⟨[], R, hs, hl, fun j t u h => by simp at h⟩
 | t :: l, [], c, R, haw, hl, _, hs => by simp at hl
 | t :: l, u :: us, c, R, haw, hl, hh, hs => by
  simp only [resolveL] at hs
  obtain ⟨s0, cs, e1, e2⟩ := (hh 0 t u rfl rfl).cells
  obtain ⟨t', R1, h1, h2, h3, h4, h5⟩ := Ij hI hκ t s0 _ _ _ R (fun h => (haw h).1) e2 hs
  obtain ⟨l', R2, g1, g2, g3⟩ := Fp hI hκ l us _ R1 (fun h => (haw h).2) (by simpa using hl) (fun j t u hj hu => hh (j + 1) t u (by simpa using hj) (by simpa using hu)) h1
  refine ⟨t' :: l', R2, g1, by simp [g2], fun j x y hx hy => ?_⟩
  cases j with
  | zero =>
   simp at hx hy; subst hx; subst hy
   exact ⟨h2, fun s' => ⟨cs, by rw [e1]; exact Cq h3.symm cs, h5 s' []⟩⟩
  | succ j => exact g3 j x y (by simpa using hx) (by simpa using hy)
theorem Ix (hI : Inv C env V w κ) (l : List T) (us : List Value) (c : List T → Rd) (R : List Nat) (hl : l.length = us.length) (hh : ∀ (j : Nat) (t : T) (u : Value), l[j]? = some t → us[j]? = some u → HV (cx C env w κ) t u) (hs : (resolveL l c).sat AF env U R) :
  ∃ l' R', (c l').sat AF env U R' ∧ l'.length = us.length ∧ ∀ (j : Nat) (t : T) (u : Value), l'[j]? = some t → us[j]? = some u → t.pure = true ∧ ∀ s', VR (seen C w) s' t u :=
 Fp (κt := fun _ => none) (s9 := 0) hI (fun _ h => absurd rfl h) l us c R (fun ⟨_, h⟩ => absurd rfl h) hl hh hs
theorem Dy {f : FuncId} {fn : Func} (hf : P.funcs[f]? = some fn) (h1 : (fn.name == "runtime.NumGoroutine") = false) (h2 : fn.body.isNone = false) (args : Array Value) (w : World) :
  (callFunc f args).run P w = .ok (.enter f args) w := by
 simp only [callFunc, Sem.run_bind, run_program, Result.andThen_ok, hf, h1, h2, Bool.false_eq_true, if_false]
 rfl
theorem Ql [Small n] (hd : a.defers = []) (hn : a.tmps.size = n) (hI : Inv C env V w κ) (hV : ∀ t, t < 1000000 → V t = a.tmps.getD t undef) {d : Nat} (hdn : d < n) {r : T} {v : Value} {w' : World} {κ' : Kap}
  (hB : Back C.P w (fun _ => none) r v w' κ') : FR C n ((d, ⟨verOf (lk env d) + 1, mkSV r⟩) :: env) (a.put (some d) v) w' := by
 have hI' : Inv C env V w' κ := hI.ext hB.os hB.tape hB.output hB.size (fun b hb => hB.kept b hb rfl)
 have hVd : ∀ t, t < 1000000 → upd V d v t = if t = d then v else a.tmps.getD t undef := fun t ht => by
  by_cases e : t = d
  ·simp [e, upd]
  ·rw [Aq _ _ _ _ e, if_neg e]; exact hV t ht
 obtain ⟨cs, e1, e2⟩ := hB.res
 by_cases hno : r.noOwn = true
 ·have : mkSV r = .val r := by simp [mkSV, hno]
  rw [this]
  refine Ci hd hn hdn (hI'.bind d _ r v (by omega) hno 0 ⟨cs, e1, ?_⟩) hVd
  exact Cz (resCx C.P w' κ') (cx C env w' κ) 0 0 rfl (fun b hb => hb.elim) (fun u k q ho => ho.elim) r [] [] cs hno e2
 ·have : mkSV r = .own r := by simp [mkSV, hno]
  rw [this]
  obtain ⟨κ2, h2, _⟩ := hI'.fresh [] d (Small.ne hdn) r cs w' (fun b => match κ' b with | some (0, p, v) => some (p, v) | _ => none) rfl rfl rfl (Nat.le_refl _) (fun _ _ => rfl) (fun _ _ _ _ _ _ _ => rfl)
   (fun b p v hb => by
    cases hk : κ' b with
    | none => simp [hk] at hb
    | some y =>
     obtain ⟨s, q, u⟩ := y
     have hc := hB.col b s q u hk
     have hge : w.heap.size ≤ b := hc.2.resolve_right (by simp)
     refine ⟨hc.1, fun hF => by have := hF.1; have := hI.size; omega, fun s' p' v' hk' => ?_⟩
     have := (hI.col b _ _ _ hk').1
     omega)
   (fun b b' p v v' hb hb' => by
    cases hk : κ' b with
    | none => simp [hk] at hb
    | some y =>
     obtain ⟨s, q, u⟩ := y
     cases hk' : κ' b' with
     | none => simp [hk'] at hb'
     | some y' =>
      obtain ⟨s', q', u'⟩ := y'
      cases s with
      | succ s => simp [hk] at hb
      | zero =>
       cases s' with
       | succ s' => simp [hk'] at hb'
       | zero =>
        simp [hk] at hb
        simp [hk'] at hb'
        obtain ⟨rfl, _⟩ := hb
        obtain ⟨rfl, _⟩ := hb'
        exact hB.inj b b' _ _ _ _ hk hk') hB.refFree
   (fun X' h1 h2 h3 h4 => Bs (X := resCx C.P w' κ') (s := 0) (p := []) h1 (fun b hb => hb.elim) (fun b q v hk => ⟨h4 b q v (by have hk' : κ' b = some (0, q, v) := hk; simp [hk']), by rw [h2]; rfl⟩) hB.refFree e2)
  rw [← e1] at h2
  exact Ci hd hn hdn (by simpa [kill] using h2) hVd
theorem Sa [Small n] {f' : FuncId} (hf : f' < 1000000) (hd : a.defers = []) (hn : a.tmps.size = n) (hI : Inv C env V w κ) (hV : ∀ t, t < 1000000 → V t = a.tmps.getD t undef) {x : Operand} {caps' : List T} {args : Array Operand} {ty : Array TypeId} {o : Oper} (ho : o.op = .call { callee := .value x, args := args, argTypes := ty }) (hok : opOk n o = true)
  {d : Nat} (hdst : o.dst = some d) (hv : HV (cx C env w κ) (.fn f' caps') (a.eval x)) {R' : List Nat}
  (h2 : (rdvL args.toList fun vs => resolveL vs fun vs' => resolveL caps' fun cs => .rd d fun s => .call f' (vs' ++ cs) fun r => [(d, ⟨verOf s + 1, mkSV r⟩)]).sat (AFn C.P) env U R') {Q : Exit → Act → World → Prop} :
  o.wp C.P a w (fun a' w' => FR C n (U ++ env) a' w') Q := by
 obtain ⟨vs, R2, h3, hl, h4⟩ := En hI hV args.toList _ R' (fun y hy => Aw hok (by simp [ho, Op.operands, Call.operands]; right; simpa using hy)) h2
 obtain ⟨vs', R3, h5, hl', h6⟩ := Ix hI vs (args.toList.map a.eval) _ R2 (by simp [hl]) (fun j t u hj hu => by
  obtain ⟨hjl, rfl⟩ := List.getElem?_eq_some_iff.1 hj
  obtain ⟨hju, rfl⟩ := List.getElem?_eq_some_iff.1 hu
  rw [List.getElem_map]
  exact h4 j hjl (by simpa using hju)) h3
 obtain ⟨s0, cc, e1, e2⟩ := hv.cells
 simp only [CR] at e2
 obtain ⟨us, rfl, hCT⟩ := e2
 simp only [mkv, List.headD, fnVal_lt hf] at e1
 obtain ⟨cs', R4, h7, h8, h9⟩ := E5 (κt := fun _ => none) (s9 := 0) hI (fun _ h => absurd rfl h) caps' s0 [] 0 us _ R3 (fun ⟨_, h⟩ => absurd rfl h) hCT h5
 simp only [Rd.sat] at h7
 obtain ⟨R5, ⟨r, hA, rfl, _⟩, _⟩ := h7
 obtain ⟨⟨fn, g1, g2, g3⟩, hcall⟩ := (Gj hf).1 hA
 have hlen : us.length = cs'.length := by
  have key : ∀ (l : List T) (i : Nat) (us : List Value) (X : Cx) (s : Nat) (p : List Nat), CRT X s p i l us → us.length = l.length := by
   intro l
   induction l with
   | nil => intro i us X s p h; simp only [CRT] at h; subst h; rfl
   | cons t l ih =>
    intro i us X s p h
    simp only [CRT] at h
    obtain ⟨⟨v, cs, q1, _, _⟩, h2⟩ := h
    have := ih (i + 1) us.tail X s p h2
    cases us with
    | nil => simp at q1
    | cons u us => simpa using this
  exact key cs' 0 us (seen C w) 0 [] (h9 0 [] 0)
 have hcall' := hcall w ((args.toList.map a.eval) ++ us) (fun _ => none) (fun _ _ _ _ h => by cases h) (fun _ _ _ _ _ _ h => by cases h) (by simp only [List.length_append, hl', hlen]) (fun j t u hj hu => by
  by_cases hlt : j < vs'.length
  ·rw [List.getElem?_append_left hlt] at hj
   rw [List.getElem?_append_left (by omega)] at hu
   obtain ⟨q1, q2⟩ := h6 j t u hj hu
   exact ⟨Cf t q1, q2 j⟩
  ·rw [List.getElem?_append_right (by omega)] at hj
   rw [List.getElem?_append_right (by omega)] at hu
   have hp0 : t.pure = true := (Db cs').1 h8 t (List.mem_of_getElem? hj)
   obtain ⟨c0, q1, q2⟩ := N9 cs' _ 0 us t hj (h9 0 [] 0)
   rw [show (List.map a.eval args.toList).length = vs'.length by omega] at hu
   rw [q1] at hu
   refine ⟨Cf t hp0, c0, by simpa using hu.symm, ?_⟩
   exact A7 (seen C w) _ 0 j rfl (fun b hb => ⟨hb, rfl⟩) t _ [] c0 hp0 q2)
 have hrun : (execOp a.eval o).run C.P w = .ok (.enter f' ((args.toList.map a.eval) ++ us).toArray) w := by
  simp only [execOp, ho, Go.resolve, e1, Deferred.ofValue, Sem.run_bind, Sem.run_pure, Result.andThen_ok, invoke, Dy g1 g2 g3]
  congr 2
  apply Array.ext'
  simp
 unfold Oper.wp
 rw [hrun]
 show Calls C.P f' _ w _
 refine hcall'.mono fun e w' hh => ?_
 obtain ⟨v, κ', rfl, hB⟩ := hh
 show FR C n _ (a.put o.dst v) w'
 rw [hdst]
 exact Ql hd hn hI hV (Ap hok d hdst) hB
theorem Ade [Small n] {f' : FuncId} (hf : ¬ f' < 1000000) (hf2 : f' - 1000000 < 1000000) (hd : a.defers = []) (hn : a.tmps.size = n) (hI : Inv C env V w κ) (hV : ∀ t, t < 1000000 → V t = a.tmps.getD t undef) {x : Operand} {caps' : List T} (hne : caps'.isEmpty = false) {args : Array Operand} {ty : Array TypeId} {o : Oper} (ho : o.op = .call { callee := .value x, args := args, argTypes := ty }) (hok : opOk n o = true)
  {d : Nat} (hdst : o.dst = some d) (hv : HV (cx C env w κ) (.fn f' caps') (a.eval x)) {R' : List Nat}
  (h2 : (rdvL args.toList fun vs => resolveL vs fun vs' => resolveL caps' fun cs => .rd d fun s => .call (f' - 1000000) (cs ++ vs') fun r => [(d, ⟨verOf s + 1, mkSV r⟩)]).sat (AFn C.P) env U R') {Q : Exit → Act → World → Prop} :
  o.wp C.P a w (fun a' w' => FR C n (U ++ env) a' w') Q := by
 obtain ⟨vs, R2, h3, hl, h4⟩ := En hI hV args.toList _ R' (fun y hy => Aw hok (by simp [ho, Op.operands, Call.operands]; right; simpa using hy)) h2
 obtain ⟨vs', R3, h5, hl', h6⟩ := Ix hI vs (args.toList.map a.eval) _ R2 (by simp [hl]) (fun j t u hj hu => by
  obtain ⟨hjl, rfl⟩ := List.getElem?_eq_some_iff.1 hj
  obtain ⟨hju, rfl⟩ := List.getElem?_eq_some_iff.1 hu
  rw [List.getElem_map]
  exact h4 j hjl (by simpa using hju)) h3
 obtain ⟨s0, cc, e1, e2⟩ := hv.cells
 simp only [CR] at e2
 obtain ⟨us, rfl, hCT⟩ := e2
 simp only [mkv, List.headD] at e1
 have hune : us ≠ [] := fun e => by
  subst e
  cases caps' with
  | nil => simp at hne
  | cons t l => simp only [CRT] at hCT; obtain ⟨⟨v, cs, q1, _⟩, _⟩ := hCT; simp at q1
 rw [fnVal_ge hf hune] at e1
 obtain ⟨cs', R4, h7, h8, h9⟩ := E5 (κt := fun _ => none) (s9 := 0) hI (fun _ h => absurd rfl h) caps' s0 [] 0 us _ R3 (fun ⟨_, h⟩ => absurd rfl h) hCT h5
 simp only [Rd.sat] at h7
 obtain ⟨R5, ⟨r, hA, rfl, _⟩, _⟩ := h7
 obtain ⟨f2, hf2e⟩ : ∃ f2, f' - 1000000 = f2 := ⟨_, rfl⟩
 rw [hf2e] at hf2
 have hfl : f2 < 1000000 := hf2
 rw [hf2e] at hA e1
 obtain ⟨⟨fn, g1, g2, g3⟩, hcall⟩ := (Gj hfl).1 hA
 have hlen : us.length = cs'.length := by
  have key : ∀ (l : List T) (i : Nat) (us : List Value) (X : Cx) (s : Nat) (p : List Nat), CRT X s p i l us → us.length = l.length := by
   intro l
   induction l with
   | nil => intro i us X s p h; simp only [CRT] at h; subst h; rfl
   | cons t l ih =>
    intro i us X s p h
    simp only [CRT] at h
    obtain ⟨⟨v, cs, q1, _, _⟩, h2⟩ := h
    have := ih (i + 1) us.tail X s p h2
    cases us with
    | nil => simp at q1
    | cons u us => simpa using this
  exact key cs' 0 us (seen C w) 0 [] (h9 0 [] 0)
 have hcall' := hcall w (us ++ (args.toList.map a.eval)) (fun _ => none) (fun _ _ _ _ h => by cases h) (fun _ _ _ _ _ _ h => by cases h) (by simp only [List.length_append, hl', hlen]) (fun j t u hj hu => by
  by_cases hlt : j < cs'.length
  ·rw [List.getElem?_append_left hlt] at hj
   rw [List.getElem?_append_left (by omega)] at hu
   have hp0 : t.pure = true := (Db cs').1 h8 t (List.mem_of_getElem? hj)
   obtain ⟨c0, q1, q2⟩ := N9 cs' _ 0 us t hj (h9 0 [] 0)
   rw [q1] at hu
   refine ⟨Cf t hp0, c0, by simpa using hu.symm, ?_⟩
   exact A7 (seen C w) _ 0 j rfl (fun b hb => ⟨hb, rfl⟩) t _ [] c0 hp0 q2
  ·rw [List.getElem?_append_right (by omega)] at hj
   rw [List.getElem?_append_right (by omega)] at hu
   rw [hlen] at hu
   obtain ⟨q1, q2⟩ := h6 (j - cs'.length) t u hj hu
   obtain ⟨c0, q3, q4⟩ := q2 j
   exact ⟨Cf t q1, c0, q3, q4⟩)
 have hrun : (execOp a.eval o).run C.P w = .ok (.enter f2 (us ++ (args.toList.map a.eval)).toArray) w := by
  simp only [execOp, ho, Go.resolve, e1, Deferred.ofValue, Sem.run_bind, Sem.run_pure, Result.andThen_ok, invoke, Dy g1 g2 g3]
  refine congrArg (fun z => Result.ok (Next.enter f2 z) w) ?_
  apply Array.ext'
  simp
 unfold Oper.wp
 rw [hrun]
 show Calls C.P f2 _ w _
 refine hcall'.mono fun e w' hh => ?_
 obtain ⟨v, κ', rfl, hB⟩ := hh
 show FR C n _ (a.put o.dst v) w'
 rw [hdst]
 exact Ql hd hn hI hV (Ap hok d hdst) hB
end
end
section
section
variable {C : Ctx} {env : Env} {V : Nat → Value} {w : World} {κ : Kap} {a : Act} {AF : FuncId → List T → T → Prop} {U : List (Nat × Slot)} {R : List Nat} {n : Nat}
variable {tt : Tt} {P : Program}
theorem Kf (hI : Inv C env V w κ) (hV : ∀ t, t < 1000000 → V t = a.tmps.getD t undef) : ∀ (xs : List Operand) (c : List T → Rd) (R : List Nat), (∀ x ∈ xs, opndOk x = true) → (pureRd xs c).sat AF env U R →
  ∃ vs R', (c vs).sat AF env U R' ∧ vs.length = xs.length ∧ (∀ (j : Nat) (t : T) (x : Operand), vs[j]? = some t → xs[j]? = some x → t.pure = true ∧ HV (cx C env w κ) t (a.eval x))
 | [], c, R, _, h => ⟨[], R, h, rfl, fun j t x hj => by simp at hj⟩
 | x :: xs, c, R, hx, h => by
  simp only [pureRd] at h
  obtain ⟨v, R', h1, hv⟩ := Ay hI hV (hx x (by simp)) h
  split at h1
  ·rename_i hp
   simp only [Bool.and_eq_true] at hp
   obtain ⟨vs, R'', h2, hl, h3⟩ := Kf hI hV xs _ R' (fun y hy => hx y (by simp [hy])) h1
   refine ⟨v :: vs, R'', h2, by simp [hl], fun j t y hj hy => ?_⟩
   cases j with
   | zero => simp at hj hy; subst hj; subst hy; exact ⟨hp.1, hv⟩
   | succ j => exact h3 j t y (by simpa using hj) (by simpa using hy)
  ·simp [Rd.sat] at h1
theorem Og (hI : Inv C env V w κ) (hV : ∀ t, t < 1000000 → V t = a.tmps.getD t undef) (dv : Nat) (hdv9 : dv ≠ 3000001) : ∀ (xs : List (Operand × Bool)) (c : List T → List (Nat × Slot) → Rd) (R : List Nat), (∀ x ∈ xs, opndOk x.1 = true) → (giveRd dv xs c).sat AF env U R →
  (∃ vs R', (c vs []).sat AF env U R' ∧ vs.length = xs.length ∧ ∀ (j : Nat) (t : T) (x : Operand × Bool), vs[j]? = some t → xs[j]? = some x → t.pure = true ∧ HV (cx C env w κ) t (a.eval x.1)) ∨
  (∃ vs jg v' xg s k p T0 R' κ', (c vs [(s, ⟨k, .own (T.set .any p T0)⟩)]).sat AF env U R' ∧ vs.length = xs.length ∧ vs[jg]? = some v' ∧ xs[jg]? = some xg ∧ v'.refFree = true ∧ s ≠ dv ∧ lk env s = some ⟨k, .own T0⟩ ∧
   (∀ (j : Nat) (t : T) (x : Operand × Bool), j ≠ jg → vs[j]? = some t → xs[j]? = some x → t.pure = true ∧ HV (cx C env w κ) t (a.eval x.1)) ∧
   Inv C ((dv, ⟨verOf (lk env dv) + 1, .own v'⟩) :: (s, ⟨k, .own (T.set .any p T0)⟩) :: env) (upd V dv (a.eval xg.1)) w κ')
 | [], c, R, _, h => .inl ⟨[], R, h, rfl, fun j t x hj => by simp at hj⟩
 | (x, false) :: xs, c, R, hx, h => by
  simp only [giveRd] at h
  obtain ⟨v, R', h1, hv⟩ := Ay hI hV (hx (x, false) (by simp)) h
  split at h1
  ·rename_i hp
   simp only [Bool.and_eq_true] at hp
   rcases Og hI hV dv hdv9 xs _ R' (fun y hy => hx y (by simp [hy])) h1 with ⟨vs, R'', h2, hl, h3⟩ | ⟨vs, jg, v', xg, s, k, p, T0, R'', κ', h2, hl, h3, h4, h5, h6, h7, h8, h9⟩
   ·refine .inl ⟨v :: vs, R'', h2, by simp [hl], fun j t y hj hy => ?_⟩
    cases j with
    | zero => simp at hj hy; subst hj; subst hy; exact ⟨hp.1, hv⟩
    | succ j => exact h3 j t y (by simpa using hj) (by simpa using hy)
   ·refine .inr ⟨v :: vs, jg + 1, v', xg, s, k, p, T0, R'', κ', h2, by simp [hl], by simpa using h3, by simpa using h4, h5, h6, h7, fun j t y hne hj hy => ?_, h9⟩
    cases j with
    | zero => simp at hj hy; subst hj; subst hy; exact ⟨hp.1, hv⟩
    | succ j => exact h8 j t y (by omega) (by simpa using hj) (by simpa using hy)
  ·simp [Rd.sat] at h1
 | (x, true) :: xs, c, R, hx, h => by
  simp only [giveRd] at h
  obtain ⟨v, R', h1, hv⟩ := Ay hI hV (hx (x, true) (by simp)) h
  rcases J1 hI hdv9 hv h1 with ⟨hp, hr, h2⟩ | ⟨s, k, p, T0, nd, v', R'', hne, hs, hg, hnd, hrf, hag, hsz, h2, κ', hI', _⟩
  ·obtain ⟨vs, R'', h3, hl, h4⟩ := Kf hI hV (xs.map (·.1)) _ R' (fun y hy => by
    rw [List.mem_map] at hy; obtain ⟨z, hz, rfl⟩ := hy; exact hx z (by simp [hz])) h2
   refine .inl ⟨v :: vs, R'', h3, by simp [hl], fun j t y hj hy => ?_⟩
   cases j with
   | zero => simp at hj hy; subst hj; subst hy; exact ⟨hp, hv⟩
   | succ j => exact h4 j t y.1 (by simpa using hj) (by simp at hy; simp [hy])
  ·obtain ⟨vs, R3, h3, hl, h4⟩ := Kf hI hV (xs.map (·.1)) _ R'' (fun y hy => by
    rw [List.mem_map] at hy; obtain ⟨z, hz, rfl⟩ := hy; exact hx z (by simp [hz])) h2
   refine .inr ⟨v' :: vs, 0, v', (x, true), s, k, p, T0, R3, κ', h3, by simp [hl], rfl, rfl, hrf, hne, hs, fun j t y hj0 hj hy => ?_, hI'⟩
   cases j with
   | zero => exact absurd rfl hj0
   | succ j => exact h4 j t y.1 (by simpa using hj) (by simp at hy; simp [hy])
theorem Nx : ∀ (xs : List Operand) (bs : List Bool), (zipB xs bs).map (·.1) = xs
 | [], _ => by simp [zipB]
 | x :: l, [] => by simp [zipB, Nx l []]
 | x :: l, b :: bs => by simp [zipB, Nx l bs]
theorem Aey [Small n] {f' : FuncId} (hf : f' < 1000000) (hd : a.defers = []) (hn : a.tmps.size = n) (hI : Inv C env V w κ) (hV : ∀ t, t < 1000000 → V t = a.tmps.getD t undef) (hn1 : n ≤ 1000000) {x : Operand} {args : Array Operand} {ty : Array TypeId} {flags : List Bool} {i : Nat} {o : Oper} (ho : o.op = .call { callee := .value x, args := args, argTypes := ty }) (hok : opOk n o = true)
  {d : Nat} (hdst : o.dst = some d) (hv : HV (cx C env w κ) (.fn f' []) (a.eval x)) {R' : List Nat}
  (h2 : (giveRd (virt i) (zipB args.toList flags) fun vs ups => .rd d fun s => .rd (virt i) fun sv => .call f' vs fun r => (d, ⟨verOf s + 1, mkSV r⟩) :: (match ups with | [] => [] | u :: us => (virt i, ⟨verOf sv + 1, .val .any⟩) :: u :: us)).sat (AFn C.P) env U R') {Q : Exit → Act → World → Prop} :
  o.wp C.P a w (fun a' w' => FR C n (U ++ env) a' w') Q := by
 have hdn := Ap hok d hdst
 obtain ⟨s0, cc, e1, e2⟩ := hv.cells
 simp only [CR] at e2
 obtain ⟨us, rfl, hCT⟩ := e2
 simp only [CRT] at hCT
 subst hCT
 simp only [mkv, List.headD, fnVal_nil] at e1
 have hargs : (zipB args.toList flags).map (·.1) = args.toList := Nx _ _
 have hrunC : ∀ (hA : ∃ fn, C.P.funcs[f']? = some fn ∧ (fn.name == "runtime.NumGoroutine") = false ∧ fn.body.isNone = false), (execOp a.eval o).run C.P w = .ok (.enter f' (args.toList.map a.eval).toArray) w := by
  intro ⟨fn, g1, g2, g3⟩
  simp only [execOp, ho, Go.resolve, e1, Deferred.ofValue, Sem.run_bind, Sem.run_pure, Result.andThen_ok, invoke, Dy g1 g2 g3]
  congr 2
  apply Array.ext'
  simp
 have hval : ∀ (j : Nat) (u : Value), (args.toList.map a.eval)[j]? = some u → ∃ y, (zipB args.toList flags)[j]? = some y ∧ u = a.eval y.1 := by
  intro j u hu
  rw [← hargs, List.map_map, List.getElem?_map] at hu
  cases hy : (zipB args.toList flags)[j]? with
  | none => simp [hy] at hu
  | some y => simp [hy] at hu; exact ⟨y, rfl, hu.symm⟩
 have hlenz : (zipB args.toList flags).length = args.toList.length := by rw [← hargs, List.length_map]; simp [hargs]
 rcases Og hI hV (virt i) (Hb i) _ _ R' (fun y hy => Aw hok (by
   simp [ho, Op.operands, Call.operands]; right
   have : y.1 ∈ (zipB args.toList flags).map (·.1) := List.mem_map.2 ⟨y, hy, rfl⟩
   rw [hargs] at this; simpa using this)) h2 with ⟨vs, R2, h3, hl, h4⟩ | ⟨vs, jg, v', xg, s, k, p, T0, R2, κ1, h3, hl, h4, h5, h6, h7, h8, h9, hI1⟩
 ·simp only [Rd.sat] at h3
  obtain ⟨R3, ⟨R4, ⟨r, hAF, rfl, _⟩, _⟩, _⟩ := h3
  obtain ⟨hA, hcall⟩ := (Gj hf).1 hAF
  have hcall' := hcall w (args.toList.map a.eval) (fun _ => none) (fun _ _ _ _ h => by cases h) (fun _ _ _ _ _ _ h => by cases h) (by simp only [List.length_map]; omega) (fun j t u hj hu => by
   obtain ⟨y, hy, rfl⟩ := hval j u hu
   obtain ⟨q1, q2⟩ := h4 j t y hj hy
   obtain ⟨s1, cs, q3, q4⟩ := q2.cells
   exact ⟨Cf t q1, cs, q3, Ea (X := cx C env w κ) (X' := argCx C.P w (fun _ => none)) rfl (fun _ _ => rfl) (fun b hb => ⟨Nat.lt_of_lt_of_le hb.1 hI.size, rfl⟩) t [] [] cs q1 q4⟩)
  unfold Oper.wp
  rw [hrunC hA]
  show Calls C.P f' _ w _
  refine hcall'.mono fun e w' hh => ?_
  obtain ⟨v, κ', rfl, hB⟩ := hh
  show FR C n _ (a.put o.dst v) w'
  rw [hdst]
  exact Ql hd hn hI hV hdn hB
 ·simp only [Rd.sat] at h3
  obtain ⟨R3, ⟨R4, ⟨r, hAF, rfl, _⟩, _⟩, _⟩ := h3
  obtain ⟨hA, hcall⟩ := (Gj hf).1 hAF
  have hdv : d ≠ virt i := fun e => by have h1 : d < n := hdn; rw [e] at h1; simp [virt] at h1; omega
  let κc : Kap := fun b => match κ1 b with | some (u, q, v) => if u = virt i then some (jg, q, v) else none | none => none
  have hκc : ∀ b s p v, κc b = some (s, p, v) → s = jg ∧ κ1 b = some (virt i, p, v) := by
   intro b s p v hb
   simp only [κc] at hb
   cases hk : κ1 b with
   | none => simp [hk] at hb
   | some y =>
    obtain ⟨u, q, v1⟩ := y
    simp only [hk] at hb
    split at hb
    ·rename_i e
     simp only [Option.some.injEq, Prod.mk.injEq] at hb
     obtain ⟨rfl, rfl, rfl⟩ := hb
     exact ⟨rfl, by rw [e]⟩
    ·cases hb
  have hκn : ∀ b, κc b = none → ∀ u q v, κ1 b = some (u, q, v) → u ≠ virt i := by
   intro b hb u q v hk e
   subst e
   simp [κc, hk] at hb
  have hFc : ∀ b, C.F b → b < w.heap.size ∧ κc b = none := fun b hb => ⟨Nat.lt_of_lt_of_le hb.1 hI.size, by
   cases hk : κc b with
   | none => rfl
   | some y =>
    obtain ⟨s, p, v⟩ := y
    have := hκc b s p v hk
    exact absurd hb (hI1.col b _ _ _ this.2).2⟩
  have hcall' := hcall w (args.toList.map a.eval) κc (fun b s p v hb => (hI1.col b _ _ _ (hκc b s p v hb).2).1) (fun b b' s p v v' hb hb' => hI1.inj b b' _ _ _ _ (hκc b s p v hb).2 (hκc b' s p v' hb').2) (by simp only [List.length_map]; omega) (fun j t u hj hu => by
   obtain ⟨y, hy, rfl⟩ := hval j u hu
   by_cases e : j = jg
   ·subst e
    rw [h4] at hj
    simp at hj; subst hj
    rw [h5] at hy
    simp at hy; subst hy
    obtain ⟨_, cs, q1, q2⟩ := hI1.own (virt i) _ _ (Ao _ _ _)
    rw [By] at q1
    exact ⟨h6, cs, q1, Bs (X := cx C ((virt i, (⟨verOf (lk env (virt i)) + 1, .own v'⟩ : Slot)) :: (s, ⟨k, .own (T.set .any p T0)⟩) :: env) w κ1) (X' := argCx C.P w κc) (s := virt i) (p := []) rfl (fun b hb => ⟨hFc b hb, rfl⟩) (fun b q v hk => ⟨by
     have hk' : κ1 b = some (virt i, q, v) := hk
     show κc b = some (j, q, v)
     simp [κc, hk'], rfl⟩) h6 q2⟩
   ·obtain ⟨q1, q2⟩ := h9 j t y e hj hy
    obtain ⟨s1, cs, q3, q4⟩ := q2.cells
    exact ⟨Cf t q1, cs, q3, Ea (X := cx C env w κ) (X' := argCx C.P w κc) rfl (fun _ _ => rfl) hFc t [] [] cs q1 q4⟩)
  unfold Oper.wp
  rw [hrunC hA]
  show Calls C.P f' _ w _
  refine hcall'.mono fun e w' hh => ?_
  obtain ⟨v, κ', rfl, hB⟩ := hh
  show FR C n _ (a.put o.dst v) w'
  rw [hdst]
  obtain ⟨cs, q1, q2⟩ := hB.res
  have hsame : ∀ b u q v, κ1 b = some (u, q, v) → u ≠ virt i → w'.heap[b]? = w.heap[b]? := fun b u q v hk hu => hB.kept b (hI1.col b u q v hk).1 (by simp [κc, hk, hu])
  have hVd : ∀ (y : Value) t, t < 1000000 → upd (upd V (virt i) (a.eval xg.1)) d y t = if t = d then y else a.tmps.getD t undef := fun y t ht => by
   by_cases e : t = d
   ·simp [e, upd]
   ·rw [Aq _ _ _ _ e, if_neg e, Aq _ _ _ _ (by simp [virt]; omega)]; exact hV t ht
  have hvd : verOf (lk ((virt i, (⟨verOf (lk env (virt i)) + 1, .own v'⟩ : Slot)) :: (s, ⟨k, .own (T.set .any p T0)⟩) :: env) d) = verOf (lk env d) := by
   rw [Ag _ _ _ _ hdv]
   by_cases e : d = s
   ·subst e; rw [Ao, h8]; rfl
   ·rw [Ag _ _ _ _ e]
  by_cases hno : r.noOwn = true
  ·have hmk : mkSV r = .val r := by simp [mkSV, hno]
   rw [hmk]
   obtain ⟨κ2, hI2, _⟩ := hI1.fresh [virt i] d (Small.ne hdn) .any [v] w' (fun _ => none) hB.os hB.tape hB.output hB.size (fun b hb => hB.kept b (hFc b hb).1 (hFc b hb).2) (fun b s p v hk hs _ => hsame b s p v hk (by simpa using hs))
    (fun _ _ _ h => by cases h) (fun _ _ _ _ _ h => by cases h) rfl (fun X' _ _ _ _ => by simp only [CR]; exact ⟨v, rfl⟩)
   have hI3 := hI2.bind d (verOf (lk env d) + 1) r v (by rw [Ao, hvd]; exact Nat.le_refl _) hno 0 ⟨cs, q1, Cz (resCx C.P w' κ') (cx C _ w' κ2) 0 0 rfl (fun b hb => hb.elim) (fun u k q ho => ho.elim) r [] [] cs hno q2⟩
   refine (Ci (v := v) hd hn hdn hI3 (fun t ht => ?_)).congr (fun t => ?_)
   ·by_cases e : t = d
    ·simp [e, upd]
    ·rw [Aq _ _ _ _ e]; exact hVd _ t ht
   ·simp only [kill, List.map_cons, List.map_nil, List.cons_append, List.nil_append, lk, if_true, verOf]
    by_cases q1 : d = t
    ·simp [q1]
    ·simp only [q1, if_false]
     by_cases q2 : virt i = t
     ·simp [q2]
     ·simp [q2]
  ·have hmk : mkSV r = .own r := by simp [mkSV, hno]
   rw [hmk]
   obtain ⟨κ2, hI2, _⟩ := hI1.fresh [virt i] d (Small.ne hdn) r cs w' (fun b => match κ' b with | some (0, p, v) => some (p, v) | _ => none) hB.os hB.tape hB.output hB.size (fun b hb => hB.kept b (hFc b hb).1 (hFc b hb).2) (fun b s p v hk hs _ => hsame b s p v hk (by simpa using hs))
    (fun b p v hb => by
     cases hk : κ' b with
     | none => simp [hk] at hb
     | some y =>
      obtain ⟨s', q, u⟩ := y
      have hc := hB.col b s' q u hk
      rcases hc.2 with hge | hne
      ·refine ⟨hc.1, fun hF => by have := hF.1; have := hI.size; omega, fun s' p' v' hk' => ?_⟩
       have := (hI1.col b _ _ _ hk').1
       omega
      ·cases hkc : κc b with
       | none => exact absurd hkc hne
       | some z =>
        obtain ⟨z1, z2, z3⟩ := z
        have hz := (hκc b z1 z2 z3 hkc).2
        refine ⟨hc.1, (hI1.col b _ _ _ hz).2, fun s' p' v' hk' => ?_⟩
        rw [hz] at hk'
        simp only [Option.some.injEq, Prod.mk.injEq] at hk'
        exact .inl (by simp [← hk'.1]))
    (fun b b' p v v' hb hb' => by
     cases hk : κ' b with
     | none => simp [hk] at hb
     | some y =>
      obtain ⟨s, q, u⟩ := y
      cases hk' : κ' b' with
      | none => simp [hk'] at hb'
      | some y' =>
       obtain ⟨s', q', u'⟩ := y'
       cases s with
       | succ s => simp [hk] at hb
       | zero =>
        cases s' with
        | succ s' => simp [hk'] at hb'
        | zero =>
         simp [hk] at hb
         simp [hk'] at hb'
         obtain ⟨rfl, _⟩ := hb
         obtain ⟨rfl, _⟩ := hb'
         exact hB.inj b b' _ _ _ _ hk hk') hB.refFree
    (fun X' g1 g2 g3 g4 => Bs (X := resCx C.P w' κ') (s := 0) (p := []) g1 (fun b hb => hb.elim) (fun b q v hk => ⟨g4 b q v (by have hk' : κ' b = some (0, q, v) := hk; simp [hk']), by rw [g2]; rfl⟩) hB.refFree q2)
   rw [← q1] at hI2
   refine (Ci (v := v) hd hn hdn hI2 (hVd v)).congr (fun t => ?_)
   rw [hvd]
   simp only [kill, List.map_cons, List.map_nil, List.cons_append, List.nil_append, lk, if_true, verOf]
   by_cases q1 : d = t
   ·simp [q1]
   ·simp only [q1, if_false]
    by_cases q2 : virt i = t
    ·simp [q2]
    ·simp [q2]
end
end
section
section
variable {C : Ctx} {env : Env} {V : Nat → Value} {w : World} {κ : Kap} {a : Act} {AF : FuncId → List T → T → Prop} {U : List (Nat × Slot)} {R : List Nat} {n : Nat}
variable {tt : Tt} {P : Program}
def sub0 (κ : Kap) (s : Nat) (p q : List Nat) : Kap := fun b =>
 match κ b with
 | some (u, r, v) => if u = s ∧ p <+: r then some (0, q ++ r.drop p.length, v) else none
 | none => none
theorem D5 {s : Nat} {p q : List Nat} {b u : Nat} {r : List Nat} {v : Value} (h : sub0 κ s p q b = some (u, r, v)) : ∃ r', κ b = some (s, p ++ r', v) ∧ u = 0 ∧ r = q ++ r' := by
 simp only [sub0] at h
 cases hk : κ b with
 | none => simp [hk] at h
 | some y =>
  obtain ⟨u1, r1, v1⟩ := y
  simp only [hk] at h
  split at h
  ·rename_i hc
   obtain ⟨rfl, r', rfl⟩ := hc
   simp only [List.drop_left, Option.some.injEq, Prod.mk.injEq] at h
   obtain ⟨rfl, rfl, rfl⟩ := h
   exact ⟨r', rfl, rfl, rfl⟩
  ·cases h
theorem Pr {s : Nat} {p q r : List Nat} {b : Nat} {v : Value} (h : κ b = some (s, p ++ r, v)) : sub0 κ s p q b = some (0, q ++ r, v) := by
 simp [sub0, h]
theorem Ag9 {X : Cx} {s : Nat} {p : List Nat} {nd : T} {cs : List Value} (hn : nd.isNode = true) (h : CR X s p nd cs) {v : Value} (hv : v = mkv nd cs) : cs = [v] := by
 have hl := Bc _ _ _ _ _ h
 rw [B4 hn] at hl
 match cs, hl with
 | [c], _ =>
  have : mkv nd [c] = c := by cases nd <;> simp_all [T.isNode, mkv]
  rw [hv, this]
theorem Aei {f' : FuncId} (hf : f' < 1000000) (hd : a.defers = []) (hn : a.tmps.size = n) (hI : Inv C env V w κ) (hV : ∀ t, t < 1000000 → V t = a.tmps.getD t undef) {x y1 y2 : Operand} {args : Array Operand} {ty : Array TypeId} {o : Oper} (ho : o.op = .call { callee := .value x, args := args, argTypes := ty }) (hok : opOk n o = true)
  {d : Nat} (hdst : o.dst = some d) (hv : HV (cx C env w κ) (.fn f' []) (a.eval x)) (hargs : args.toList = [y1, y2]) {R' : List Nat}
  (h2 : (ioRd d f' y1 y2).sat (AFn C.P) env U R') {Q : Exit → Act → World → Prop} :
  o.wp C.P a w (fun a' w' => FR C n (U ++ env) a' w') Q := by
 simp [ioRd, Rd.sat] at h2
end
end
section
section
variable {C : Ctx} {env : Env} {V : Nat → Value} {w : World} {κ : Kap} {a : Act} {AF : FuncId → List T → T → Prop} {U : List (Nat × Slot)} {R : List Nat} {n : Nat}
variable {tt : Tt} {P : Program}
structure Ext (C C' : Ctx) : Prop where
 P : C'.P = C.P
 F : ∀ b, C.F b → C'.F b
 heap : ∀ b, C.F b → C'.w0.heap[b]? = C.w0.heap[b]?
 os : C'.w0.os = C.w0.os
 tape : C'.w0.tape = C.w0.tape
 output : C'.w0.output = C.w0.output
 size : C.w0.heap.size ≤ C'.w0.heap.size
 pin : C'.pin = C.pin
theorem Ext.refl (C : Ctx) : Ext C C := ⟨rfl, fun _ h => h, fun _ _ => rfl, rfl, rfl, rfl, Nat.le_refl _, rfl⟩
theorem Ext.trans {C C' C'' : Ctx} (h : Ext C C') (g : Ext C' C'') : Ext C C'' :=
 ⟨g.P.trans h.P, fun b hb => g.F b (h.F b hb), fun b hb => (g.heap b (h.F b hb)).trans (h.heap b hb), g.os.trans h.os, g.tape.trans h.tape, g.output.trans h.output, Nat.le_trans h.size g.size, g.pin.trans h.pin⟩
theorem Zh (t : T) (cs : List Value) : mkv t.freeze cs = mkv t cs := by
 cases t with
 | sl o e l => cases o <;> simp [T.freeze, mkv]
 | _ => simp [T.freeze, mkv]
theorem Inv.freezeAt {s k : Nat} {T0 : T} (hs : lk env s = some ⟨k, .own T0⟩) (hI : Inv C env V w κ) : ∃ C' κ', Ext C C' ∧ Inv C' ((s, ⟨k, .val T0.freeze⟩) :: env) V w κ' ∧ ∀ p nd cs, nd.refFree = true → CR (cx C env w κ) s p nd cs → CR (cx C' ((s, ⟨k, .val T0.freeze⟩) :: env) w κ') s [] nd.freeze cs ∧ nd.freeze.pure = true := by
 let κ' : Kap := fun b => match κ b with
  | some (u, q, v) => if u = s then none else some (u, q, v)
  | none => none
 have k1 : ∀ {b u q v}, κ' b = some (u, q, v) → κ b = some (u, q, v) ∧ u ≠ s := by
  intro b u q v h
  simp only [κ'] at h
  cases hk : κ b with
  | none => simp [hk] at h
  | some y =>
   obtain ⟨u', q', v'⟩ := y
   simp only [hk] at h
   split at h
   ·cases h
   ·rename_i hne; cases h; exact ⟨rfl, hne⟩
 have k2 : ∀ {b u q v}, κ b = some (u, q, v) → u ≠ s → κ' b = some (u, q, v) := by
  intro b u q v h hne
  simp [κ', h, hne]
 have k3 : ∀ {b q v}, κ b = some (s, q, v) → κ' b = none := by
  intro b q v h
  simp [κ', h]
 have hFF : ∀ b, C.F b → Ctx.F ⟨C.P, w, fun b => κ' b ≠ none, C.pin⟩ b := fun b hb => ⟨Nat.lt_of_lt_of_le hb.1 hI.size, fun h => by
  cases hk : κ' b with
  | none => exact h hk
  | some y => obtain ⟨u, q, v⟩ := y; exact (hI.col b _ _ _ (k1 hk).1).2 hb⟩
 have hvr : ∀ (t : Nat) (x : T) (v : Value), t ≠ s → VR (cx C env w κ) t x v → VR (cx ⟨C.P, w, fun b => κ' b ≠ none, C.pin⟩ ((s, ⟨k, .val T0.freeze⟩) :: env) w κ') t x v := by
  intro t x v hne ⟨cs, h1, h2⟩
  refine ⟨cs, h1, Ca (cx C env w κ) _ t t x [] [] cs ⟨rfl, fun b hb => ⟨hFF b hb, rfl⟩, fun b q v hk => ⟨k2 hk hne, rfl⟩, fun u j q ho => ?_⟩ h2⟩
  obtain ⟨y, hy, hj⟩ := ho
  by_cases e : u = s
  ·subst e
   rw [hs] at hy
   cases hy
   refine ⟨⟨_, Ao _ _ _, hj⟩, fun hn => ?_⟩
   obtain ⟨T2, nd, g1, _⟩ := hn
   rw [Ao] at g1
   cases g1
  ·refine ⟨⟨y, by rw [Ag _ _ _ _ e]; exact hy, hj⟩, fun hn => ?_⟩
   obtain ⟨T2, nd, g1, g2, g3⟩ := hn
   rw [Ag _ _ _ _ e] at g1
   exact ⟨⟨T2, nd, g1, g2, g3⟩, fun b v hk => k2 hk e⟩
 refine ⟨⟨C.P, w, fun b => κ' b ≠ none, C.pin⟩, κ', ⟨rfl, hFF, hI.frozen, hI.os, hI.tape, hI.output, hI.size, rfl⟩, ⟨rfl, rfl, rfl, Nat.le_refl _, fun _ _ => rfl, fun b u q v h => ⟨(hI.col b _ _ _ (k1 h).1).1, fun hb => hb.2 (show κ' b ≠ none by rw [h]; exact fun h => by cases h)⟩, fun b b' u q v v' h h' => hI.inj b b' _ _ _ _ (k1 h).1 (k1 h').1, fun t j x hx => ?_, fun t j x hx => ?_, fun t j hx => ?_, fun u0 p0 b v hb T1 nd h0 hg hn => ?_, fun b v hb k9 T9 h9 hn9 => ?_⟩, fun p nd cs hr h => Fa (X := cx C env w κ) (X' := cx ⟨C.P, w, fun b => κ' b ≠ none, C.pin⟩ ((s, ⟨k, .val T0.freeze⟩) :: env) w κ') (s := s) (s' := s) rfl (fun b _ => rfl) hFF nd p [] cs hr (fun b r v hk => ⟨(hI.col b _ _ _ hk).1, fun h => h (k3 hk)⟩) h⟩
 ·by_cases e : t = s
  ·subst e
   rw [Ao] at hx
   cases hx
   obtain ⟨h1, cs, h2, h3⟩ := hI.own _ _ _ hs
   have hz := Fa (X := cx C env w κ) (X' := cx ⟨C.P, w, fun b => κ' b ≠ none, C.pin⟩ ((t, ⟨k, .val T0.freeze⟩) :: env) w κ') (s := t) (s' := t) rfl (fun b _ => rfl) hFF T0 [] [] cs h1 (fun b r v hk => ⟨(hI.col b _ _ _ hk).1, fun h => h (k3 hk)⟩) h3
   exact ⟨Ce _ hz.2, cs, by rw [h2]; exact (Zh T0 cs).symm, hz.1⟩
  ·rw [Ag _ _ _ _ e] at hx
   obtain ⟨h1, h2⟩ := hI.val t j x hx
   exact ⟨h1, hvr t x _ e h2⟩
 ·by_cases e : t = s
  ·subst e
   rw [Ao] at hx
   cases hx
  ·rw [Ag _ _ _ _ e] at hx
   obtain ⟨h1, h2⟩ := hI.own t j x hx
   exact ⟨h1, hvr t x _ e h2⟩
 ·by_cases e : t = s
  ·subst e
   rw [Ao] at hx
   cases hx
  ·rw [Ag _ _ _ _ e] at hx
   exact hI.und t j hx
 ·by_cases e : u0 = s
  ·subst e
   rw [Ao] at h0
   cases h0
  ·rw [Ag _ _ _ _ e] at h0
   exact k2 (hI.pin u0 p0 b v hb T1 nd h0 hg hn) e
 ·by_cases e : 3000001 = s
  ·rw [← e, Ao] at h9; cases h9
  ·rw [Ag _ _ _ _ e] at h9
   exact k2 (hI.root b v hb k9 T9 h9 hn9) e
theorem FR.freeze {s k : Nat} {T0 : T} (hs : lk env s = some ⟨k, .own T0⟩) (hF : FR C n env a w) : ∃ C', Ext C C' ∧ FR C' n ((s, ⟨k, .val T0.freeze⟩) :: env) a w := by
 obtain ⟨hd, hn, κ, V, hI, hV⟩ := hF
 obtain ⟨C', κ', hE, hI', _⟩ := hI.freezeAt hs
 exact ⟨C', hE, hd, hn, κ', V, hI', hV⟩
def FRe (C : Ctx) (n : Nat) (env : Env) (a : Act) (w : World) : Prop := ∃ C', Ext C C' ∧ FR C' n env a w
theorem FR.e (h : FR C n env a w) : FRe C n env a w := ⟨C, .refl C, h⟩
theorem fre {o : Oper} {P : Program} {E : Env} {Q : Exit → Act → World → Prop} (h : o.wp P a w (fun a' w' => FR C n E a' w') Q) : o.wp P a w (fun a' w' => FRe C n E a' w') Q := Oper.wp_mono (fun _ _ h => h.e) h
theorem Uu [Small n] (hP : TtOk C.P tt) (hF : FR C n env a w) {t e : TypeId} {sz by_ : Nat} {z : T} (hit : tyAt tt t = some ⟨sz, by_, z, .slice e⟩) {ie : Ty} (hie : tyAt tt e = some ie) {x : Operand} {lo hi : Option Operand} {o : Oper}
  (ho : o.op = .slice t x lo hi none) (hok : opOk n o = true)
  (h : (rdv x fun
    | .sl false e' l =>
     boundRd lo 0 fun a => boundRd hi l.length fun b => .need (e' = e ∧ 0 ≤ a ∧ a ≤ b ∧ b ≤ l.length) (fin o.dst (.sl false e ((l.take b.toNat).drop a.toNat)))
    | .ref s k p => (match o.dst with
     | some d => if s = d then .fail else rdn s k p fun T0 nd => match nd with
      | .sl true e' l => if ie.kind.isSl then boundRd lo 0 fun a => boundRd hi l.length fun b => .need (e' = e ∧ 0 ≤ a ∧ a ≤ b ∧ b ≤ l.length ∧ a < l.length ∧ ie.size = 1)
        (.rd d fun sd => .done [(d, ⟨verOf sd + 1, .own (.win e a.toNat b.toNat l)⟩), (s, ⟨k, .own (T.set .any p T0)⟩)]) else
       if cutB lo hi then boundRd hi l.length fun c => .need (e' = e ∧ 0 ≤ c ∧ c ≤ l.length ∧ ie.size = 1 ∧ l.all T.scalar = true)
        (.rd d fun sd => .done [(d, ⟨verOf sd + 1, .own (.sl true e (l.take c.toNat))⟩), (s, ⟨k, .own (T.set .any p T0)⟩)]) else
       boundRd lo 0 fun a => if hi.isNone then .need (e' = e ∧ 0 ≤ a ∧ a < l.length ∧ ie.size = 1) (fin o.dst (.addr s k p a.toNat [])) else boundRd hi l.length fun b => .need (e' = e ∧ 0 ≤ a ∧ a ≤ b ∧ b ≤ l.length)
        (.rd d fun sd => .done [(d, ⟨verOf sd, .val (.sl false e (((T.freezeL l).take b.toNat).drop a.toNat))⟩), (s, ⟨k, .val T0.freeze⟩)])
      | _ => .fail
     | none => .fail)
    | _ => .fail).sat AF env U R) {Q : Exit → Act → World → Prop} :
  o.wp C.P a w (fun a' w' => FRe C n (U ++ env) a' w') Q := by
 have hF0 := hF
 obtain ⟨hd, hn, κ, V, hI, hV⟩ := hF
 obtain ⟨v, R', h1, hv⟩ := Ay hI hV (Aw hok (by simp [ho, Op.operands])) h
 cases v <;> try (simp [Rd.sat] at h1; done)
 case sl o' e' l =>
  cases o' with
  | true => simp [Rd.sat] at h1
  | false =>
   simp only at h1
   obtain ⟨lo', R1, h2, hlo⟩ := Ds hI hV (fun y hy => Aw hok (by simp [ho, Op.operands, hy])) h1
   obtain ⟨hi', R2, h3, hhi⟩ := Ds hI hV (fun y hy => Aw hok (by simp [ho, Op.operands, hy])) h2
   simp only [Rd.sat] at h3
   obtain ⟨⟨rfl, c1, c2, c3⟩, h4⟩ := h3
   obtain ⟨v', hr, hv'⟩ := Ob (a := a) (w := w) rfl rfl hP hit hie ho hv hlo hhi c1 c2 c3
   exact Al hr (A3 hd hn hI hV (Ap hok) hv' h4).e
 case ref s k p =>
  simp only at h1
  split at h1
  ·rename_i d hdst
   split at h1
   ·simp [Rd.sat] at h1
   ·rename_i hne
    obtain ⟨T0, nd, R4, hs, hg, hnd, h5⟩ := Bm h1
    split at h5
    ·rename_i e' l
     split at h5
     ·obtain ⟨lo', R1, h2, hlo⟩ := Ds hI hV (fun y hy => Aw hok (by simp [ho, Op.operands, hy])) h5
      obtain ⟨hi', R2, h3, hhi⟩ := Ds hI hV (fun y hy => Aw hok (by simp [ho, Op.operands, hy])) h2
      simp only [Rd.sat] at h3
      obtain ⟨⟨rfl, c1, c2, c3, c4, c5⟩, R5, ⟨rfl, _⟩, _⟩ := h3
      exact fre (Up hP hd hn hI hV hit hie ho hok hdst hne hs hg hnd hv hlo hhi c1 c2 c3 c4 c5)
     split at h5
     ·rename_i hcut
      obtain ⟨hi', R2, h3, hhi⟩ := Ds hI hV (fun y hy => Aw hok (by simp [ho, Op.operands, hy])) h5
      simp only [Rd.sat] at h3
      obtain ⟨⟨rfl, c1, c2, c3, c4⟩, R5, ⟨rfl, _⟩, _⟩ := h3
      exact fre (V4 hP hd hn hI hV hit hie ho hok hdst hne hs hg hnd hv hcut hhi c1 c2 c3 (fun t ht => List.all_eq_true.1 c4 t ht))
     obtain ⟨lo', R1, h2, hlo⟩ := Ds hI hV (fun y hy => Aw hok (by simp [ho, Op.operands, hy])) h5
     split at h2
     ·rename_i hcond
      simp only [Option.isNone_iff_eq_none] at hcond
      obtain rfl := hcond
      simp only [Rd.sat] at h2
      obtain ⟨⟨rfl, c1, c2, c3⟩, h4⟩ := h2
      obtain ⟨s1, hc⟩ := hv.ref_cells
      obtain ⟨b, cap, cur, k1, k2, k3, k4⟩ := hI.ref_eq hs hg hnd hc
      simp only [List.cons.injEq, and_true, headOf] at k1
      obtain ⟨L, rfl⟩ := Int.eq_ofNat_of_zero_le c1
      have hcap : l.length ≤ cap := by
       simp only [CR] at k2
       obtain ⟨b', cap', cur', m1, _, _, m4, _⟩ := k2
       have : a.eval x = .slice (some ⟨b', 0, none⟩) l.length cap' := by simpa using m1
       rw [k1] at this
       simp at this
       omega
      have hr := Ie (C := C) (a := a) (w := w) hP hit hie ho k1 hcap (H := l.length) hlo (.inl ⟨rfl, rfl⟩) (by omega) (Nat.le_refl _)
      rw [if_neg (by omega), c3, Nat.mul_one] at hr
      simp only [Option.map_some, Bw, Nat.zero_add] at hr
      refine Al hr (A3 hd hn hI hV (Ap hok) ⟨rfl, 0, [.slice (some ⟨b, L, none⟩) (l.length - L) (cap - L)], rfl, ?_⟩ h4).e
      simp only [CR, Int.toNat_natCast]
      exact ⟨_, rfl, ⟨_, hs, Nat.le_refl _⟩, fun _ => ⟨b, _, k4, rfl⟩⟩
     obtain ⟨hi', R2, h3, hhi⟩ := Ds hI hV (fun y hy => Aw hok (by simp [ho, Op.operands, hy])) h2
     simp only [Rd.sat] at h3
     obtain ⟨⟨rfl, c1, c2, c3⟩, R5, ⟨rfl, _⟩, _⟩ := h3
     obtain ⟨s1, hc⟩ := hv.ref_cells
     obtain ⟨b, cap, cur, k1, k2, k3, k4⟩ := hI.ref_eq hs hg hnd hc
     have hr0 := Bh p T0 _ hg (hI.own s k T0 hs).1
     obtain ⟨C', κ', hE, hI', hfr⟩ := hI.freezeAt hs
     have hz := hfr p _ _ hr0 k2
     have hfl : (T.freezeL l).length = l.length := by rw [Cm, List.length_map]
     have hv2 : HV (cx C' ((s, ⟨k, .val T0.freeze⟩) :: env) w κ') (.sl false e' (T.freezeL l)) (a.eval x) := by
      refine ⟨Ce _ hz.2, s, [a.eval x], ?_, ?_⟩
      ·rfl
      ·exact hz.1
     rw [← hfl] at hhi c3
     have hP' : TtOk C'.P tt := by rw [hE.P]; exact hP
     obtain ⟨v', hr, hv'⟩ := Ob (C := C') (a := a) (w := w) rfl rfl hP' hit hie ho hv2 hlo hhi c1 c2 c3
     rw [hE.P] at hr
     refine Al hr ⟨C', hE, ?_⟩
     rw [hdst]
     have hdn := Ap hok d hdst
     exact A3 hd hn hI' hV (fun t ht => by cases ht; exact hdn) hv' (d := some d) (AF := AF) (R := [d]) (by
      simp only [fin, Rd.sat, Ag _ _ _ _ (fun e => hne e.symm)]
      exact ⟨[], ⟨rfl, rfl⟩, rfl⟩)
    ·simp [Rd.sat] at h5
  ·simp [Rd.sat] at h1
theorem Inv.later (hI : Inv C env V w κ) : Ext C ⟨C.P, w, fun b => κ b ≠ none, C.pin⟩ ∧ Inv ⟨C.P, w, fun b => κ b ≠ none, C.pin⟩ env V w κ := by
 have hFF : ∀ b, C.F b → Ctx.F ⟨C.P, w, fun b => κ b ≠ none, C.pin⟩ b := fun b hb => ⟨Nat.lt_of_lt_of_le hb.1 hI.size, fun h => by
  cases hk : κ b with
  | none => exact h hk
  | some y => obtain ⟨u, q, v⟩ := y; exact (hI.col b _ _ _ hk).2 hb⟩
 have hvr : ∀ (t : Nat) (x : T) (v : Value), VR (cx C env w κ) t x v → VR (cx ⟨C.P, w, fun b => κ b ≠ none, C.pin⟩ env w κ) t x v := fun t x v ⟨cs, h1, h2⟩ =>
  ⟨cs, h1, Ca (cx C env w κ) _ t t x [] [] cs ⟨rfl, fun b hb => ⟨hFF b hb, rfl⟩, fun b q v hk => ⟨hk, rfl⟩, fun u j q ho => ⟨ho, fun hn => ⟨hn, fun b v hk => hk⟩⟩⟩ h2⟩
 exact ⟨⟨rfl, hFF, hI.frozen, hI.os, hI.tape, hI.output, hI.size, rfl⟩, rfl, rfl, rfl, Nat.le_refl _, fun _ _ => rfl, fun b u q v h => ⟨(hI.col b _ _ _ h).1, fun hb => hb.2 (show κ b ≠ none by rw [h]; exact fun h => by cases h)⟩, hI.inj, fun t j x hx => ⟨(hI.val t j x hx).1, hvr t x _ (hI.val t j x hx).2⟩, fun t j x hx => ⟨(hI.own t j x hx).1, hvr t x _ (hI.own t j x hx).2⟩, hI.und, hI.pin, hI.root⟩
end
end
section
section
variable {C : Ctx} {env : Env} {V : Nat → Value} {w : World} {κ : Kap} {a : Act} {AF : FuncId → List T → T → Prop} {U : List (Nat × Slot)} {R : List Nat} {n : Nat}
variable {tt : Tt} {P : Program}
theorem Vm {l : List T} (h : ∀ t ∈ l, t.scalar = true) : ∀ r n, T.get r (.agg l) = some n → n.isNode = false := by
 intro r n hr
 cases r with
 | nil => simp [T.get] at hr; subst hr; rfl
 | cons i r =>
  simp only [T.get] at hr
  cases hl : l[i]? with
  | none => simp [hl] at hr
  | some x =>
   simp [hl] at hr
   exact Fz (h x (List.mem_of_getElem? hl)) r n hr
theorem Iy {X : Cx} {s : Nat} {p : List Nat} {ts : List T} {cur : Array Value} (hsc : ∀ t ∈ ts, t.scalar = true) (hl : cur.size = ts.length)
  (h : ∀ (j : Nat) (t : T) (v : Value), ts[j]? = some t → cur[j]? = some v → ∀ (X : Cx) (s : Nat) (p : List Nat), CR X s p t [v]) : CRL X s p 0 ts cur.toList :=
 D1 ts 0 cur.toList (by simp [hl]) (fun t ht => Da (hsc t ht)) (fun j t v hj hv => h j t v hj (by simpa using hv) _ _ _)
theorem Dj {ts : List T} (hsc : ∀ t ∈ ts, t.scalar = true) : T.sizeL ts = ts.length := by
 rw [A9 (n := 1) (fun t ht => Da (hsc t ht)), Nat.mul_one]
theorem Agi [Small n] {f' : FuncId} (hf : f' < 1000000) (hd : a.defers = []) (hn : a.tmps.size = n) (hI : Inv C env V w κ) (hV : ∀ t, t < 1000000 → V t = a.tmps.getD t undef) {x : Operand} {args : Array Operand} {ty : Array TypeId} {o : Oper} (ho : o.op = .call { callee := .value x, args := args, argTypes := ty }) (hok : opOk n o = true)
  {d : Nat} (hdst : o.dst = some d) (hv : HV (cx C env w κ) (.fn f' []) (a.eval x)) {R' : List Nat}
  (h2 : (ioGRd d f' args.toList).sat (AFn C.P) env U R') {Q : Exit → Act → World → Prop} :
  o.wp C.P a w (fun a' w' => FR C n (U ++ env) a' w') Q := by
 have hdn := Ap hok d hdst
 obtain ⟨s0, cc, e1, e2⟩ := hv.cells
 simp only [CR] at e2
 obtain ⟨us, rfl, hCT⟩ := e2
 simp only [CRT] at hCT
 subst hCT
 simp only [mkv, List.headD, fnVal_nil] at e1
 have hopd : ∀ y ∈ args.toList, opndOk y = true := fun y hy => Aw hok (by simp [ho, Op.operands, Call.operands]; right; simpa using hy)
 unfold ioGRd at h2
 split at h2
 ·simp [Rd.sat] at h2
 rename_i x0 ys hargs
 obtain ⟨v, R1, h3, hv1⟩ := Ay hI hV (hopd x0 (by simp [hargs])) h2
 split at h3
 ·rename_i s k p off sub
  split at h3
  ·simp [Rd.sat] at h3
  rename_i hne
  split at h3
  ·rename_i hsub
   simp only [Rd.sat] at h3
   obtain ⟨⟨rfl, rfl⟩, h4⟩ := h3
   subst hsub
   obtain ⟨vs, R2, h5, hl, h6⟩ := En hI hV ys _ _ (fun y hy => hopd y (by simp [hargs, hy])) h4
   simp only [Rd.sat] at h5
   obtain ⟨haw, h5⟩ := h5
   have hT : ∃ T0, lk env s = some ⟨k, .own T0⟩ ∧ T0.isNode = true := by
    obtain ⟨vs', R3, h7, _⟩ := Ix hI vs (ys.map a.eval) _ R2 (by simp [hl]) (fun j t u hj hu => by
     obtain ⟨hjl, rfl⟩ := List.getElem?_eq_some_iff.1 hj
     obtain ⟨hju, rfl⟩ := List.getElem?_eq_some_iff.1 hu
     rw [List.getElem_map]
     exact h6 j hjl (by simpa using hju)) h5
    obtain ⟨T0, nd, R4, hs, hg, hnd, _⟩ := Bm h7
    simp only [T.get, Option.some.injEq] at hg
    subst hg
    exact ⟨T0, hs, hnd⟩
   obtain ⟨T0, hs, hnd⟩ := hT
   obtain ⟨s1, cs1, q1, q2⟩ := hv1.cells
   obtain ⟨b, cap, cur0, k1, k2, k3, k4⟩ := hI.addr_eq hs (q := []) (n := T0) (by simp [T.get]) hnd q2
   have hκ : ∀ c, boxK b c ≠ none → ∃ p v, κ c = some (s, p, v) := by
    intro c hc
    simp only [boxK] at hc
    split at hc
    ·rename_i e
     subst e
     exact ⟨_, _, k4⟩
    ·exact absurd rfl hc
   obtain ⟨vs', R3, h7, hl', h8⟩ := Fp (κt := boxK b) (s9 := s) hI hκ vs (ys.map a.eval) _ R2 (fun _ => haw) (by simp [hl]) (fun j t u hj hu => by
    obtain ⟨hjl, rfl⟩ := List.getElem?_eq_some_iff.1 hj
    obtain ⟨hju, rfl⟩ := List.getElem?_eq_some_iff.1 hu
    rw [List.getElem_map]
    exact h6 j hjl (by simpa using hju)) h5
   obtain ⟨T1, nd, R4, hs', hg, _, h9⟩ := Bm h7
   rw [hs] at hs'
   cases hs'
   simp only [Rd.sat] at h9
   obtain ⟨R5, h10, _⟩ := h9
   split at h10
   ·rename_i kg g hgl
    split at h10
    ·rename_i hgp
     simp only [Rd.sat] at h10
     obtain ⟨R6, ⟨r, hA, rfl, _⟩, _⟩ := h10
     obtain ⟨⟨fn, g1, g2, g3⟩, e, ts, ts', rest, g', r1, ea, rfl, hsc, hsc', hlen, hcall⟩ := (Ag1 hf).1 hA
     simp only [List.cons.injEq] at ea
     obtain ⟨rfl, rfl, rfl⟩ := ea
     simp only [headOf] at k1 k2 k4
     obtain ⟨hr0, csV, hVs, hCV⟩ := hI.own s k _ hs
     simp only [CR] at k2
     obtain ⟨b', cur, m1, m2, m3, m4, m5, m6⟩ := k2
     simp only [List.cons.injEq, Value.pointer.injEq, Option.some.injEq, Addr.mk.injEq, and_true] at m1
     subst m1
     have hsz := Dj hsc
     have hcs : cur.size = ts.length := by rw [m5]; simpa [T.size] using hsz
     have hSc := Eb ts 0 _ hsc m6
     have hx0 : a.eval x0 = .pointer (some ⟨b, 0, none⟩) := by rw [q1, k1]; rfl
     obtain ⟨hgno, cg, eg1, eg2⟩ := hI.val _ _ _ hgl
     have hcall' := hcall w b cur (V 3000000) (ys.map a.eval) m2 hcs (by rw [show C.P.cellsOf e = (cx C env w κ).sz e from rfl, ← m4]; simpa [T.size] using hsz)
      (fun j t v hj hv => hSc.2 j t v hj (by simpa using hv)) hgp
      (fun s' => ⟨cg, eg1, A7 (cx C env w κ) (argCx C.P w (boxK b)) 3000000 s' rfl (fun c hc => ⟨Ui hI hκ hc, rfl⟩) _ [] [] cg hgp eg2⟩) (by simp only [hl']) (fun j t v hj hv => h8 j t v hj hv)
     have hrun : (execOp a.eval o).run C.P w = .ok (.enter f' (.pointer (some ⟨b, 0, none⟩) :: ys.map a.eval).toArray) w := by
      simp only [execOp, ho, Go.resolve, e1, Deferred.ofValue, Sem.run_bind, Sem.run_pure, Result.andThen_ok, invoke, Dy g1 g2 g3]
      congr 2
      apply Array.ext'
      simp [hargs, hx0]
     unfold Oper.wp
     rw [hrun]
     show Calls C.P f' _ w _
     refine hcall'.mono fun x' w' hh => ?_
     obtain ⟨v1, κ', cur', rfl, hB, hκb, hb', hcl', hSc'⟩ := hh
     show FR C n _ (a.put o.dst _) w'
     rw [hdst]
     have hne' : ∀ c, c ≠ b → boxK b c = none := fun c hc => by simp [boxK, hc]
     have hbF : ¬ C.F b := (hI.col b _ _ _ k4).2
     have hput := hI.put s k k (.box e (.agg ts)) (.agg ts) (.agg ts') [0] [] (fun _ => none) w' hs (by simp) (by simp [T.get]) rfl
      (by simp only [T.refFree]; exact (E8 hsc').2) hB.os hB.tape hB.output hB.size
      (fun c hc => hB.kept c (Nat.lt_of_lt_of_le hc.1 hI.size) (hne' c (fun e => hbF (e ▸ hc))))
      (fun c u p v hk _ hu => hB.kept c (hI.col c _ _ _ hk).1 (hne' c (fun e => by subst e; rw [k4] at hk; simp at hk; exact hu hk.1.symm)))
      (fun _ _ _ h => by cases h) (fun _ _ _ h => by cases h) (fun _ _ _ _ _ h => by cases h) (.inr ⟨rfl, Vm hsc'⟩) (fun _ _ => .inl rfl)
      (fun cs X' f1 f2 f3 f4 f5 hT => by
       simp only [T.set, CR] at hT ⊢
       obtain ⟨b2, cur2, n1, n2, n3, n4, n5, n6⟩ := hT
       have hbb : b2 = b := hI.inj b2 b s [] _ _ n3 k4
       subst hbb
       refine ⟨b2, cur', n1, by rw [f2]; exact hb', ?_, ?_, ?_, Iy hsc' hcl' hSc'⟩
       ·rw [f4]; exact Cp (fun _ _ _ h => by cases h) n3 (by simp)
       ·rw [f1]; simp only [T.size, Dj hsc', hlen]; rw [← hsz]; exact m4
       ·simp only [T.size, Dj hsc', hcl'])
     have hk0 : kill [] env = env := rfl
     rw [hk0] at hput
     have hset : T.set (.agg ts') [0] (.box e (.agg ts)) = .box e (.agg ts') := by simp [T.set]
     rw [hset] at hput
     have hver : verOf (lk ((s, ⟨k, .own (.box e (.agg ts'))⟩) :: env) d) = verOf (lk env d) := by rw [Ag _ _ _ _ (fun e => hne e.symm)]
     have hVd : ∀ t, t < 1000000 → upd V d v1 t = if t = d then v1 else a.tmps.getD t undef := fun t ht => by
      by_cases e : t = d
      ·simp [e, upd]
      ·rw [Aq _ _ _ _ e, if_neg e]; exact hV t ht
     have hcol' : ∀ {c s q u}, κ' c = some (s, q, u) → w.heap.size ≤ c := by
      intro c s q u hc
      have h1 := (hB.col c _ _ _ hc).2
      refine h1.resolve_right (fun h => ?_)
      simp only [boxK] at h
      split at h
      ·rename_i e; subst e; rw [hκb] at hc; cases hc
      ·exact h rfl
     have hcolP : ∀ {c u q v}, recol κ s [0] [] (fun _ => none) c = some (u, q, v) → κ c = some (u, q, v) := by
      intro c u q v hc
      rcases D6 hc with ⟨_, r', _, ho⟩ | ⟨_, hk, _⟩
      ·cases ho
      ·exact hk
     obtain ⟨cs, w1, w2⟩ := hB.res
     simp only [ioGUps]
     by_cases hno : r1.noOwn = true
     ·have : mkSV r1 = .val r1 := by simp [mkSV, hno]
      rw [this]
      have hb2 := hput.bind d (verOf (lk env d) + 1) r1 v1 (by rw [hver]; omega) hno 0 ⟨cs, w1, Cz (resCx C.P w' κ') (cx C ((s, ⟨k, .own (.box e (.agg ts'))⟩) :: env) w' (recol κ s [0] [] fun _ => none)) 0 0 rfl (fun b hb => hb.elim) (fun u k q ho => ho.elim) r1 [] [] cs hno w2⟩
      exact Ci hd hn hdn hb2 hVd
     ·have : mkSV r1 = .own r1 := by simp [mkSV, hno]
      rw [this]
      obtain ⟨κ2, h12, _⟩ := hput.fresh [] d (Small.ne hdn) r1 cs w' (fun b => match κ' b with | some (0, p, v) => some (p, v) | _ => none) rfl rfl rfl (Nat.le_refl _) (fun _ _ => rfl) (fun _ _ _ _ _ _ _ => rfl)
       (fun c p v hb => by
        cases hk : κ' c with
        | none => simp [hk] at hb
        | some y =>
         obtain ⟨s', q, u⟩ := y
         have hge := hcol' hk
         refine ⟨(hB.col c s' q u hk).1, fun hF => by have := hF.1; have := hI.size; omega, fun s' p' v' hk' => ?_⟩
         have := (hI.col c _ _ _ (hcolP hk')).1
         omega)
       (fun b b' p v v' hb hb' => by
        cases hk : κ' b with
        | none => simp [hk] at hb
        | some y =>
         obtain ⟨s, q, u⟩ := y
         cases hk' : κ' b' with
         | none => simp [hk'] at hb'
         | some y' =>
          obtain ⟨s', q', u'⟩ := y'
          cases s with
          | succ s => simp [hk] at hb
          | zero =>
           cases s' with
           | succ s' => simp [hk'] at hb'
           | zero =>
            simp [hk] at hb
            simp [hk'] at hb'
            obtain ⟨rfl, _⟩ := hb
            obtain ⟨rfl, _⟩ := hb'
            exact hB.inj b b' _ _ _ _ hk hk') hB.refFree
       (fun X' h1 h2 h3 h4 => Bs (X := resCx C.P w' κ') (s := 0) (p := []) h1 (fun b hb => hb.elim) (fun b q v hk => ⟨h4 b q v (by have hk' : κ' b = some (0, q, v) := hk; simp [hk']), by rw [h2]; rfl⟩) hB.refFree w2)
      rw [← w1, hver] at h12
      exact Ci hd hn hdn (by simpa [kill] using h12) hVd
    ·simp [Rd.sat] at h10
   ·simp [Rd.sat] at h10
  ·simp [Rd.sat] at h3
 ·simp [Rd.sat] at h3
end
end
section
section
variable {C : Ctx} {env : Env} {V : Nat → Value} {w : World} {κ : Kap} {a : Act} {AF : FuncId → List T → T → Prop} {U : List (Nat × Slot)} {R : List Nat} {n : Nat}
variable {tt : Tt} {P : Program}
theorem Afc [Small n] {f' : FuncId} (hf : f' < 1000000) (hd : a.defers = []) (hn : a.tmps.size = n) (hI : Inv C env V w κ) (hV : ∀ t, t < 1000000 → V t = a.tmps.getD t undef) {x : Operand} {caps : List T} {args : Array Operand} {ty : Array TypeId} {o : Oper} (ho : o.op = .call { callee := .value x, args := args, argTypes := ty }) (hok : opOk n o = true)
  {d i : Nat} (hdst : o.dst = some d) (hv : HV (cx C env w κ) (.fn f' caps) (a.eval x)) {R' : List Nat}
  (h2 : (kRd d f' args.toList caps i).sat (AFn C.P) env U R') {Q : Exit → Act → World → Prop} :
  o.wp C.P a w (fun a' w' => FR C n (U ++ env) a' w') Q := by
 simp [kRd, Rd.sat] at h2
theorem Af4 {f' : FuncId} (hf : f' < 1000000) (hd : a.defers = []) (hn : a.tmps.size = n) (hI : Inv C env V w κ) (hV : ∀ t, t < 1000000 → V t = a.tmps.getD t undef) {x : Operand} {args : Array Operand} {ty : Array TypeId} {o : Oper} (ho : o.op = .call { callee := .value x, args := args, argTypes := ty }) (hok : opOk n o = true)
  {d : Nat} (hdst : o.dst = some d) (hv : HV (cx C env w κ) (.fn f' []) (a.eval x)) {R' : List Nat}
  (h2 : (cRd d f' args.toList).sat (AFn C.P) env U R') {Q : Exit → Act → World → Prop} :
  o.wp C.P a w (fun a' w' => FR C n (U ++ env) a' w') Q := by
 simp [cRd, Rd.sat] at h2
end
end
section
section
variable {C : Ctx} {env : Env} {V : Nat → Value} {w : World} {κ : Kap} {a : Act} {AF : FuncId → List T → T → Prop} {U : List (Nat × Slot)} {R : List Nat} {n : Nat}
variable {tt : Tt} {P : Program}
theorem Ul {n n' : T} {b b' c c' : Nat} (hn : n.isNode = true) (hn' : n'.isNode = true) (h : headOf n b c = headOf n' b' c') : b = b' := by
 cases n <;> cases n' <;> simp_all [T.isNode, headOf]
theorem Afk {n : T} (hn : n.isNode = true) (v : Value) : mkv n [v] = v := by
 cases n <;> simp_all [T.isNode, mkv]
theorem Aa8 {f' : FuncId} (hd : a.defers = []) (hn : a.tmps.size = n) (hI : Inv C env V w κ) (hV : ∀ t, t < 1000000 → V t = a.tmps.getD t undef) {d : Nat} (hdn : d < n)
  {s k : Nat} {p q : List Nat} {T0 nd A : T} (hs : lk env s = some ⟨k, .own T0⟩) (hg : T.get p T0 = some nd) (hnd : nd.isNode = true) (hne : s ≠ d) {u1 h : Value} (hrA : A.refFree = true)
  (hcell : CR (cx C env w κ) s p nd [h]) (harg : VR (argCx C.P w (sub0 κ s p q)) 0 A u1)
  (hext : ∀ (A' : T) (X : Cx), A'.refFree = true → Shape A A' → VR X 0 A' u1 → ∃ n', T.get q A' = some n' ∧ n'.isNode = true ∧ n'.refFree = true ∧ CR X 0 q n' [h])
  {jw : Nat} {vs' : List T} {us : List Value} (hus : us.length = vs'.length) (hrest : ∀ (j : Nat) (y : T) (u : Value), vs'[j]? = some y → us[j]? = some u → y.pure = true ∧ ∀ s', VR (argCx C.P w (sub0 κ s p q)) s' y u)
  {r : T} (hAF : AFn C.P (8000000 + f') (.int .i64 jw :: A :: vs') r) {o : Oper} (hdst : o.dst = some d)
  (hrun : ∀ (_ : ∃ fn, C.P.funcs[f']? = some fn ∧ (fn.name == "runtime.NumGoroutine") = false ∧ fn.body.isNone = false), (execOp a.eval o).run C.P w = .ok (.enter f' (us.take jw ++ u1 :: us.drop jw).toArray) w) {Q : Exit → Act → World → Prop} :
  o.wp C.P a w (fun a' w' => FR C n (xUps d (lk env d) s k p T0 q r ++ env) a' w') Q := by
 obtain ⟨hfn, jw1, A1, rest1, r1, v1, A', e1, rfl, hno, hr1, hsh, hcall⟩ := Ago.1 hAF
 simp only [List.cons.injEq, T.int.injEq, true_and] at e1
 obtain ⟨ej, rfl, rfl⟩ := e1
 have ej' : jw1 = jw := by omega
 subst ej'
 have hc := hcall w u1 us (sub0 κ s p q) (fun b s' p' v hb => by
   obtain ⟨r', h1, h2, _⟩ := D5 hb
   exact ⟨(hI.col b _ _ _ h1).1, h2⟩) (fun b b' s' p' v v' hb hb' => by
   obtain ⟨r1, h1, _, h2⟩ := D5 hb
   obtain ⟨r2, h3, _, h4⟩ := D5 hb'
   have : r1 = r2 := List.append_cancel_left (h2.symm.trans h4)
   subst this
   exact hI.inj b b' _ _ _ _ h1 h3) hrA harg hus hrest
 unfold Oper.wp
 rw [hrun hfn]
 show Calls C.P f' _ w _
 refine hc.mono fun e w' hh => ?_
 obtain ⟨κ', rfl, hB⟩ := hh
 show FR C n _ (a.put o.dst v1) w'
 rw [hdst]
 obtain ⟨n', hq, hn', hrn, hCR⟩ := hext A' _ hB.refFree hsh hB.res
 have hFn : ∀ b, C.F b → sub0 κ s p q b = none := fun b hb => by
  cases hk : sub0 κ s p q b with
  | none => rfl
  | some y =>
   obtain ⟨u, r, v⟩ := y
   obtain ⟨r', h1, _, _⟩ := D5 hk
   exact absurd hb (hI.col b _ _ _ h1).2
 have hkF : ∀ b, C.F b → w'.heap[b]? = w.heap[b]? := fun b hb => hB.kept b (Nat.lt_of_lt_of_le hb.1 hI.size) (hFn b hb)
 have hkeep : ∀ b u r v, κ b = some (u, r, v) → ¬ (u = s ∧ p <+: r) → w'.heap[b]? = w.heap[b]? := fun b u r v hk hnn => hB.kept b (hI.col b _ _ _ hk).1 (by simp [sub0, hk, hnn])
 let κo : Nat → Option (List Nat × Value) := fun b => match κ' b with | some (u, r, v) => if u = 0 ∧ q <+: r then some (r.drop q.length, v) else none | none => none
 have hκo : ∀ b r v, κo b = some (r, v) → κ' b = some (0, q ++ r, v) := by
  intro b r v hb
  simp only [κo] at hb
  cases hk : κ' b with
  | none => simp [hk] at hb
  | some y =>
   obtain ⟨u1, r1, v1⟩ := y
   simp only [hk] at hb
   split at hb
   ·rename_i hc
    obtain ⟨rfl, r', rfl⟩ := hc
    simp only [List.drop_left, Option.some.injEq, Prod.mk.injEq] at hb
    obtain ⟨rfl, rfl⟩ := hb
    rfl
   ·cases hb
 have hκa : ∀ b r v, κ' b = some (0, q ++ r, v) → κo b = some (r, v) := by
  intro b r v hb
  simp [κo, hb]
 have hcol2 : ∀ b r v, κo b = some (r, v) → ∀ u r v, κ b = some (u, r, v) → (u = s ∧ p <+: r) ∨ u ∈ ([] : List Nat) := fun b r v hb u r' v' hk => by
  rcases (hB.col b _ _ _ (hκo b r v hb)).2 with hge | hne'
  ·exact absurd (hI.col b _ _ _ hk).1 (Nat.not_lt.2 hge)
  ·cases hk2 : sub0 κ s p q b with
   | none => exact absurd hk2 hne'
   | some y =>
    obtain ⟨u2, q2, v2⟩ := y
    obtain ⟨r2, h1, _, _⟩ := D5 hk2
    rw [h1] at hk
    simp only [Option.some.injEq, Prod.mk.injEq] at hk
    obtain ⟨rfl, rfl, _⟩ := hk
    exact .inl ⟨rfl, List.prefix_append _ _⟩
 obtain ⟨b0, cap0, cur0, m1, _, m3, _⟩ := D7 hnd hcell
 obtain ⟨b1, cap1, cur1, l1, _, l3, _⟩ := D7 hn' hCR
 simp only [List.cons.injEq, and_true] at m1 l1
 have hbb : b0 = b1 := Ul hnd hn' (m1.symm.trans l1)
 subst hbb
 have hroot : ∀ b v, κ b = some (s, p, v) → κo b = some ([], v) := fun b v hb => by
  have m3' : κ b0 = some (s, p, headOf nd b0 cap0) := m3
  have := hI.inj b b0 _ _ _ _ hb m3'
  subst this
  rw [m3'] at hb
  simp only [Option.some.injEq, Prod.mk.injEq, true_and] at hb
  refine hκa b [] v ?_
  rw [List.append_nil, ← hb, ← m1, l1]
  exact l3
 have hput := hI.putG s k (if n'.flat then k else k + 1) T0 nd n' p [] κo w' hs (by simp) hg (by rw [Cv hnd, Cv hn']) hrn hB.os hB.tape hB.output hB.size
  hkF (fun b u r v hk _ hu => hkeep b u r v hk (fun hx => hu hx.1))
  (fun b r v hb => ⟨(hB.col b _ _ _ (hκo b r v hb)).1, fun hF => by
   rcases (hB.col b _ _ _ (hκo b r v hb)).2 with hge | hne'
   ·exact absurd (Nat.lt_of_lt_of_le hF.1 hI.size) (Nat.not_lt.2 hge)
   ·exact hne' (hFn b hF)⟩) hcol2
  (fun b b' r v v' hb hb' => hB.inj b b' _ _ _ _ (hκo b r v hb) (hκo b' r v' hb'))
  (by
   by_cases hfl : n'.flat = true
   ·rw [if_pos hfl]
    refine .inr ⟨rfl, fun r n g1 g2 => ?_⟩
    cases r with
    | nil => exact ⟨⟨nd, rfl, hnd⟩, fun b v hb => hroot b v (by simpa using hb)⟩
    | cons i r =>
     exfalso
     cases n' with
     | sl o e l =>
      cases o with
      | false => simp [T.get] at g1
      | true =>
       simp only [T.get] at g1
       cases hi : l[i]? with
       | none => simp [hi] at g1
       | some y =>
        simp only [hi, Option.bind_some] at g1
        have hy : y.scalar = true := List.all_eq_true.1 hfl y (List.mem_of_getElem? hi)
        rw [Fz hy r n g1] at g2
        cases g2
     | _ => simp [T.flat] at hfl
   ·rw [if_neg hfl]; exact .inl rfl)
  (fun _ e => by
   subst e
   simp only [T.get, Option.some.injEq] at hg
   subst hg
   exact .inr ⟨hnd, fun b v hb => hroot b v hb⟩)
  (fun cs X' f1 f2 f3 f4 f5 hT => by
   obtain ⟨cs0, h6, h7⟩ := Dr (X' := X') p T0 [] cs nd n' hg hT (by rw [B4 hnd, B4 hn']) (by rw [Cv hnd, Cv hn'])
    ⟨f1, fun b hb => ⟨by rw [f3]; exact hb, by rw [f2]; exact hkF b hb⟩, fun b r v hk hnp => by
     simp only [List.nil_append] at hk ⊢
     have hnn : ¬ (s = s ∧ p <+: r) := fun hx => hnp hx.2
     exact ⟨by rw [f4]; exact Cp hcol2 hk (by simp [hnp]), by rw [f2]; exact hkeep b s r v hk hnn⟩, f5⟩
   refine h7 ?_
   simp only [List.nil_append] at h6 ⊢
   have hcs : cs0 = [h] := by
    obtain ⟨b2, cap2, cur2, rfl, _, x2, _⟩ := D7 hnd h6
    have hb := hI.inj b2 b0 s p _ _ x2 m3
    subst hb
    have x2' : κ b2 = some (s, p, headOf nd b2 cap2) := x2
    have m3' : κ b2 = some (s, p, headOf nd b2 cap0) := m3
    rw [x2'] at m3'
    simp only [Option.some.injEq, Prod.mk.injEq, true_and] at m3'
    rw [m3', m1]
   subst hcs
   exact Bs (X := resCx C.P w' κ') (X' := X') f1 (fun b hb => hb.elim) (fun b r v hk => ⟨by rw [f4]; exact Ic (hκa b r v hk), by rw [f2]; rfl⟩) hrn hCR)
 simp only [xUps, hq]
 have hk0 : kill [] env = env := rfl
 rw [hk0] at hput
 obtain ⟨c1, z1, z2⟩ := hr1 (cx C ((s, ⟨if n'.flat then k else k + 1, .own (T.set n' p T0)⟩) :: env) w' (recol κ s p [] κo)) 0
 have hb := hput.bind d (verOf (lk env d) + 1) r1 v1 (by rw [Ag _ _ _ _ (fun e => hne e.symm)]; omega) hno 0 ⟨c1, z1, z2⟩
 refine Ci hd hn hdn hb (fun t ht => ?_)
 by_cases e : t = d
 ·simp [e, upd]
 ·rw [Aq _ _ _ _ e, if_neg e]; exact hV t ht
theorem Afq {f' : FuncId} (hf : f' < 1000000) (hd : a.defers = []) (hn : a.tmps.size = n) (hI : Inv C env V w κ) (hV : ∀ t, t < 1000000 → V t = a.tmps.getD t undef) {x : Operand} {args : Array Operand} {ty : Array TypeId} {o : Oper} (ho : o.op = .call { callee := .value x, args := args, argTypes := ty }) (hok : opOk n o = true)
  {d jw : Nat} (hdst : o.dst = some d) (hv : HV (cx C env w κ) (.fn f' []) (a.eval x)) {R' : List Nat}
  (h2 : (xRd jw d f' args.toList).sat (AFn C.P) env U R') {Q : Exit → Act → World → Prop} :
  o.wp C.P a w (fun a' w' => FR C n (U ++ env) a' w') Q := by
 have hdn := Ap hok d hdst
 obtain ⟨s0, cc, e1, e2⟩ := hv.cells
 simp only [CR] at e2
 obtain ⟨us, rfl, hCT⟩ := e2
 simp only [CRT] at hCT
 subst hCT
 simp only [mkv, List.headD, fnVal_nil] at e1
 have hopd : ∀ y ∈ args.toList, opndOk y = true := fun y hy => Aw hok (by simp [ho, Op.operands, Call.operands]; right; simpa using hy)
 unfold xRd at h2
 split at h2
 ·rename_i x0 post hargs
  have hjl : jw < args.toList.length := by
   refine Nat.lt_of_not_le fun h => ?_
   rw [List.drop_eq_nil_of_le h] at hargs
   cases hargs
  have hal : args.toList = args.toList.take jw ++ x0 :: post := by rw [← hargs, List.take_append_drop]
  have htl : (args.toList.take jw).length = jw := by rw [List.length_take]; omega
  obtain ⟨v, R1, h3, hv1⟩ := Ay hI hV (hopd x0 (by rw [hal]; simp)) h2
  obtain ⟨vs, R2, h4, hl, h5⟩ := En hI hV (args.toList.take jw ++ post) _ _ (fun y hy => hopd y (by
   rw [hal]
   rcases List.mem_append.1 hy with h | h
   ·exact List.mem_append.2 (.inl h)
   ·exact List.mem_append.2 (.inr (List.mem_cons_of_mem _ h)))) h3
  let us : List Value := (args.toList.take jw ++ post).map a.eval
  have husl : us.length = vs.length := by simp [us, hl]
  have hrunC : ∀ (_ : ∃ fn, C.P.funcs[f']? = some fn ∧ (fn.name == "runtime.NumGoroutine") = false ∧ fn.body.isNone = false), (execOp a.eval o).run C.P w = .ok (.enter f' (us.take jw ++ a.eval x0 :: us.drop jw).toArray) w := by
   intro ⟨fn, g1, g2, g3⟩
   simp only [execOp, ho, Go.resolve, e1, Deferred.ofValue, Sem.run_bind, Sem.run_pure, Result.andThen_ok, invoke, Dy g1 g2 g3]
   congr 2
   apply Array.ext'
   have h9 : us.take jw ++ a.eval x0 :: us.drop jw = args.toList.map a.eval := by
    rw [hal]
    simp only [us, List.map_append, List.map_cons]
    rw [List.take_append_of_le_length (by rw [List.length_map, htl]; exact Nat.le_refl _), List.take_of_length_le (by rw [List.length_map, htl]; exact Nat.le_refl _), List.drop_append_of_le_length (by rw [List.length_map, htl]; exact Nat.le_refl _), List.drop_eq_nil_of_le (by rw [List.length_map, htl]; exact Nat.le_refl _), List.nil_append]
   rw [h9]
   simp
  have hdat : ∀ {s : Nat} {p q : List Nat} {c : List T → Rd} {R : List Nat}, T.awayL s vs → (resolveL vs c).sat (AFn C.P) env U R → ∃ vs' R', (c vs').sat (AFn C.P) env U R' ∧ vs'.length = us.length ∧ ∀ (j : Nat) (t : T) (u : Value), vs'[j]? = some t → us[j]? = some u → t.pure = true ∧ ∀ s', VR (argCx C.P w (sub0 κ s p q)) s' t u := by
   intro s p q c R haw hs
   exact Fp (κt := sub0 κ s p q) (s9 := s) hI (fun c hc => by
    cases hk : sub0 κ s p q c with
    | none => exact absurd hk hc
    | some y =>
     obtain ⟨u, r, v⟩ := y
     obtain ⟨r', h1, _, _⟩ := D5 hk
     exact ⟨_, _, h1⟩) vs us c R (fun _ => haw) (by simp [us, hl]) (fun j t u hj hu => by
    obtain ⟨hju, rfl⟩ := List.getElem?_eq_some_iff.1 hu
    have hjl' : j < (args.toList.take jw ++ post).length := by simpa [us] using hju
    obtain ⟨hjt, rfl⟩ := List.getElem?_eq_some_iff.1 hj
    rw [show us[j] = a.eval ((args.toList.take jw ++ post)[j]) from List.getElem_map _]
    exact h5 j hjt hjl') hs
  have hFs : ∀ {s : Nat} {p q : List Nat} {b : Nat}, (cx C env w κ).F b → (argCx C.P w (sub0 κ s p q)).F b ∧ (argCx C.P w (sub0 κ s p q)).w.heap[b]? = (cx C env w κ).w.heap[b]? := fun {s p q b} hb => ⟨⟨Nat.lt_of_lt_of_le hb.1 hI.size, by
   cases hk : sub0 κ s p q b with
   | none => rfl
   | some y =>
    obtain ⟨u, r, v⟩ := y
    obtain ⟨r', h1, _, _⟩ := D5 hk
    exact absurd hb (hI.col b _ _ _ h1).2⟩, rfl⟩
  split at h4
  ·rename_i s k p
   split at h4
   ·simp [Rd.sat] at h4
   ·rename_i hne
    simp only [Rd.sat] at h4
    obtain ⟨haw, h4⟩ := h4
    obtain ⟨vs', R3, h6, hl', hrest⟩ := hdat (q := []) (p := p) haw h4
    obtain ⟨T0, nd, R4, hs, hg, hnd, h7⟩ := Bm h6
    simp only [Rd.sat] at h7
    obtain ⟨R5, ⟨r, hA, rfl, _⟩, _⟩ := h7
    have hr0 := Bh p T0 nd hg (hI.own s k T0 hs).1
    obtain ⟨s1, hc⟩ := hv1.ref_cells
    obtain ⟨b, cap, cur, k1, k2, k3, k4⟩ := hI.ref_eq hs hg hnd hc
    refine Aa8 (f' := f') (q := []) (A := nd) (u1 := a.eval x0) (h := a.eval x0) hd hn hI hV hdn hs hg hnd hne hr0 k2 ?_ ?_ hl'.symm hrest hA hdst hrunC
    ·refine ⟨[a.eval x0], (Afk hnd _).symm, ?_⟩
     exact Bs (X := cx C env w κ) (X' := argCx C.P w (sub0 κ s p [])) rfl (fun b hb => hFs hb) (fun b q v hk => ⟨Pr hk, rfl⟩) hr0 k2
    ·intro A' X hrf hsh hVR
     have hnA : A'.isNode = true := by
      rcases hsh with h | ⟨l, l', e, _⟩
      ·exact h.2
      ·rw [e] at hnd; simp [T.isNode] at hnd
     obtain ⟨cs, q1, q2⟩ := hVR
     have := Ag9 hnA q2 q1
     subst this
     exact ⟨A', by simp [T.get], hnA, hrf, q2⟩
  ·rename_i l
   split at h4
   ·rename_i j s k p hh
    split at h4
    ·simp [Rd.sat] at h4
    ·rename_i hne
     split at h4
     ·rename_i hcond
      simp only [Bool.and_eq_true] at hcond
      simp only [Rd.sat] at h4
      obtain ⟨haw, h4⟩ := h4
      obtain ⟨vs', R3, h6, hl', hrest⟩ := hdat (q := [j]) (p := p) haw h4
      obtain ⟨T0, nd, R4, hs, hg, hnd, h7⟩ := Bm h6
      simp only [Rd.sat] at h7
      obtain ⟨R5, ⟨r, hA, rfl, _⟩, _⟩ := h7
      have hr0 := Bh p T0 nd hg (hI.own s k T0 hs).1
      have hj := J7 l j s k p hh
      obtain ⟨s1, cs, c1, c2⟩ := hv1.cells
      simp only [CR] at c2
      have c3 := E4 l j 0 cs _ hj c2
      simp only [T.size] at c3
      obtain ⟨b, cap, cur, k1, k2, k3, k4⟩ := hI.ref_eq hs hg hnd c3
      have hrf : (T.agg (l.set j nd)).refFree = true := by simp only [T.refFree]; exact Ff l j nd hcond.2 hr0
      have hcell : CR (cx C env w κ) s p nd [headOf nd b cap] := by rw [← k1]; exact k2
      refine Aa8 (f' := f') (q := [j]) (A := .agg (l.set j nd)) (u1 := a.eval x0) (h := headOf nd b cap) hd hn hI hV hdn hs hg hnd hne hrf hcell ?_ ?_ hl'.symm hrest hA hdst hrunC
      ·refine ⟨cs, by rw [c1]; rfl, ?_⟩
       simp only [CR]
       refine N3 (X := cx C env w κ) (X' := argCx C.P w (sub0 κ s p [j])) rfl (fun b hb => hFs hb) rfl (B4 hnd) l j 0 [] [] cs hj hcond.1 c2 ?_
       rw [k1]
       simpa using Bs (X := cx C env w κ) (X' := argCx C.P w (sub0 κ s p [j])) (s' := 0) (p' := [j]) rfl (fun b hb => hFs hb) (fun b q v hk => ⟨Pr hk, rfl⟩) hr0 hcell
      ·intro A' X hrf' hsh hVR
       rcases hsh with hx | ⟨l1, l', e1, rfl, hsz, hnode⟩
       ·simp [T.isNode] at hx
       ·simp only [T.agg.injEq] at e1
        subst e1
        have hjl : j < l.length := (List.getElem?_eq_some_iff.1 hj).1
        obtain ⟨n', g1, g2⟩ := hnode j nd (by simp [hjl]) hnd
        refine ⟨n', by simp [T.get, g1], g2, ?_, ?_⟩
        ·simp only [T.refFree] at hrf'
         exact (Bi l').1 hrf' n' (List.mem_of_getElem? g1)
        ·obtain ⟨cs', q1, q2⟩ := hVR
         have hcs : cs' = cs := by
          rw [c1] at q1
          simpa [mkv] using q1.symm
         subst hcs
         simp only [CR] at q2
         have := E4 l' j 0 cs' n' g1 q2
         rw [B4 g2, hsz j] at this
         have hst : T.sizeL ((l.set j nd).take j) = T.sizeL (l.take j) := by rw [List.take_set_of_le (Nat.le_refl _)]
         rw [hst, k1] at this
         simpa using this
     ·simp [Rd.sat] at h4
   ·simp [Rd.sat] at h4
  ·simp [Rd.sat] at h4
 ·simp [Rd.sat] at h2
end
end
section
section
variable {C : Ctx} {env : Env} {V : Nat → Value} {w : World} {κ : Kap} {a : Act} {U : List (Nat × Slot)} {R : List Nat} {n : Nat}
variable {tt : Tt} {P : Program}
theorem Yz (hP : TtOk P tt) {t : TypeId} {i : Ty} (h : tyAt tt t = some i) : P.underlying t ≠ none := by
 obtain ⟨_, _, _, h1⟩ := hP t i h
 obtain ⟨sz, by_, z, k⟩ := i
 intro hn
 cases k <;> simp [hn] at h1
theorem Aa2 (hP : TtOk C.P tt) (hF : FR C n env a w) (hn1 : n ≤ 1000000) {b : Builtin} {args : Array Operand} {ty : Array TypeId} {i : Nat} {o : Oper} (ho : o.op = .call { callee := .builtin b, args := args, argTypes := ty }) (hok : opOk n o = true)
  (h : (builtinRd tt o b args.toList ty.toList i).sat (AFn C.P) env U R) {Q : Exit → Act → World → Prop} : o.wp C.P a w (fun a' w' => FR C n (U ++ env) a' w') Q := by
 haveI : Small n := ⟨hn1⟩
 unfold builtinRd at h
 split at h
 ·rename_i x t h1 h2
  split at h
  ·rename_i sz by_ z e hit
   have ha : args = #[x] := by apply Array.ext'; simpa using h1
   have ht : ty[0]? = some t := by rw [← Array.getElem?_toList, h2]; rfl
   subst ha
   exact Ajf hP hF hit ho ht hok h
  ·simp [Rd.sat] at h
 ·rename_i x y h1
  have ha : args = #[x, y] := by apply Array.ext'; simpa using h1
  subst ha
  exact Air hF ho hok h
 ·rename_i x y h1
  have ha : args = #[x, y] := by apply Array.ext'; simpa using h1
  subst ha
  exact Aja hF ho hok h
 ·rename_i x y t t' h1 h2
  split at h
  ·rename_i he
   subst he
   split at h
   ·rename_i sz by_ z e hit
    split at h
    ·rename_i ie hie
     have ha : args = #[x, y] := by apply Array.ext'; simpa using h1
     have ht : ty = #[t, t] := by apply Array.ext'; simpa using h2
     subst ha; subst ht
     exact Ab2 hP hF hn1 hit hie ho hok h
    ·simp [Rd.sat] at h
   ·simp [Rd.sat] at h
  ·split at h
   ·rename_i sz by_ z e sz' by' z' k' hit hit'
    split at h
    ·rename_i ie hie
     have ha : args = #[x, y] := by apply Array.ext'; simpa using h1
     have ht : ty = #[t, t'] := by apply Array.ext'; simpa using h2
     subst ha; subst ht
     simp [Rd.sat] at h
    ·simp [Rd.sat] at h
   ·simp [Rd.sat] at h
 ·rename_i x y t t' h1 h2
  split at h
  ·rename_i d sz by_ z e hdst hit
   split at h
   ·rename_i ie hie
    have ha : args = #[x, y] := by apply Array.ext'; simpa using h1
    have ht : ty = #[t, t'] := by apply Array.ext'; simpa using h2
    subst ha; subst ht
    simp [Rd.sat] at h
   ·simp [Rd.sat] at h
  ·simp [Rd.sat] at h
 ·simp [Rd.sat] at h
theorem Ud (hP : TtOk C.P tt) (md : FuncId → List Bool) (hF : FR C n env a w) (hn1 : n ≤ 1000000) {i : Nat} {o : Oper} (hok : opOk n o = true)
  (h : (opRd tt md i o).sat (AFn C.P) env U R) {Q : Exit → Act → World → Prop} : o.wp C.P a w (fun a' w' => FRe C n (U ++ env) a' w') Q := by
 haveI : Small n := ⟨hn1⟩
 unfold opRd at h
 split at h
 ·rename_i x ho; exact fre (Ahp hF ho hok h)
 ·rename_i x ho; exact fre (Acw hF ho hok h)
 ·rename_i x ho; exact fre (Wv hF ho hok h)
 ·rename_i c x y ho; exact fre (Ahm hF ho hok h)
 ·rename_i e ho
  split at h
  ·rename_i ie hie; exact fre (Aft hP hF hie ho hok h)
  ·simp [Rd.sat] at h
 ·rename_i e x ho
  split at h
  ·rename_i ie hie; exact fre (Ajb hP hF hn1 hie ho hok h)
  ·simp [Rd.sat] at h
 ·rename_i t x ho
  split at h
  ·rename_i it hit; exact fre (Aht hP hF hit ho hok h)
  ·simp [Rd.sat] at h
 ·rename_i t x y ho
  split at h
  ·rename_i it hit hdst; exact fre (Agb hP hF hit ho hdst hok h)
  ·simp [Rd.sat] at h
 ·rename_i t x f ho
  split at h
  ·rename_i sz by_ z fs hit
   split at h
   ·rename_i tf offf szf hf; exact fre (Sn hP hF hit hf ho hok h)
   ·simp [Rd.sat] at h
  ·simp [Rd.sat] at h
 ·rename_i t x f ho
  split at h
  ·rename_i sz by_ z fs hit
   split at h
   ·rename_i tf offf szf hf
    split at h
    ·rename_i itf hitf; exact fre (Af7 hP hF hit hf hitf ho hok h)
    ·simp [Rd.sat] at h
   ·simp [Rd.sat] at h
  ·simp [Rd.sat] at h
 ·rename_i t x y ho
  split at h
  ·rename_i sz by_ z e hit
   split at h
   ·rename_i ie hie; exact fre (Tl hP hF hit hie ho hok h)
   ·simp [Rd.sat] at h
  ·simp [Rd.sat] at h
 ·rename_i t x lo hi ho
  split at h
  ·rename_i sz by_ z e hit
   split at h
   ·rename_i ie hie; exact Uu hP hF hit hie ho hok h
   ·simp [Rd.sat] at h
  ·simp [Rd.sat] at h
 ·rename_i t x y ho
  split at h
  ·rename_i sz by_ z e hit
   split at h
   ·rename_i ie hie; exact fre (Ro hP hF hit hie ho hok h)
   ·simp [Rd.sat] at h
  ·simp [Rd.sat] at h
 ·rename_i t m parts ho
  split at h
  ·rename_i sz by_ z e hit
   split at h
   ·rename_i ie hie
    split at h
    ·rename_i hc; exact fre (Rh hP hF hit hie ho hok hc.1 hc.2.1 hc.2.2.1 hc.2.2.2.1 h)
    ·split at h
     ·rename_i hps; exact fre (Qh hP hF hn1 hit hie ho (by assumption) hok h)
     ·exact fre (Qf hP hF hit hie ho hok (by assumption) h)
     ·rename_i hps; exact fre (Px hP hF hit hie ho (by assumption) hok h)
     ·simp [Rd.sat] at h
   ·simp [Rd.sat] at h
  ·simp [Rd.sat] at h
 ·rename_i t parts ho
  split at h
  ·rename_i sz by_ zs fs hit
   split at h
   ·simp [Rd.sat] at h
   ·rename_i hc; exact fre (Af6 hP hF hit ho hok (by revert hc; cases fs.all (fun x => x.2.2 != 0) <;> simp) h)
  ·simp [Rd.sat] at h
 ·rename_i op t x y t' ho; exact fre (Afx hP hF ho hok h)
 ·rename_i op t x ho; exact fre (Ahb hF ho hok h)
 ·rename_i s t x ho
  split at h
  ·rename_i is his
   split at h
   ·rename_i sz by_ z k hit; exact fre (Zb hP hF hit (Yz hP his) ho hok h)
   ·simp [Rd.sat] at h
  ·simp [Rd.sat] at h
 ·rename_i x j ho; exact fre (Aaj hF ho hok h)
 ·rename_i f first caps ho
  split at h
  ·rename_i hc; exact fre (V8 hF ho hok hc.1 hc.2 h)
  ·split at h
   ·rename_i hc; exact fre (Ru hF ho hok hc.1 hc.2 h)
   ·simp [Rd.sat] at h
 ·rename_i c ho
  obtain ⟨callee, args, ty⟩ := c
  simp only at h
  cases callee with
  | builtin b => exact fre (Aa2 hP hF hn1 ho hok h)
  | invoke r m => simp [Rd.sat] at h
  | value x =>
   simp only at h
   obtain ⟨hd, hn, κ, V, hI, hV⟩ := hF
   obtain ⟨v, R', h1, hv⟩ := Ay hI hV (Aw hok (by simp [ho, Op.operands, Call.operands])) h
   cases v <;> try (simp [Rd.sat] at h1; done)
   rename_i f caps
   simp only [callRd] at h1
   split at h1
   ·simp [Rd.sat] at h1
   ·rename_i d hdst
    split at h1
    ·rename_i hf
     split at h1
     ·split at h1
      ·rename_i hargs
       obtain ⟨v1, R1, h2, _⟩ := Ay hI hV (Aw hok (by simp [ho, Op.operands, Call.operands]; right; rw [← Array.mem_toList_iff, hargs]; simp)) h1
       split at h2
       ·rw [← hargs] at h2
        exact fre (Sa hf hd hn hI hV ho hok hdst hv h2)
       ·exact fre (Aei hf hd hn hI hV ho hok hdst hv hargs h2)
      ·simp [Rd.sat] at h1
     ·split at h1
      ·split at h1
       ·simp [Rd.sat] at h1
       ·simp [Rd.sat] at h1
      ·split at h1
       ·split at h1
        ·simp [Rd.sat] at h1
        ·simp [Rd.sat] at h1
       ·split at h1
        ·split at h1
         ·exact fre (Agi hf hd hn hI hV ho hok hdst hv h1)
         ·simp [Rd.sat] at h1
        ·split at h1
         ·exact fre (Afc hf hd hn hI hV ho hok hdst hv h1)
         ·split at h1
          ·split at h1
           ·exact fre (Af4 hf hd hn hI hV ho hok hdst hv h1)
           ·simp [Rd.sat] at h1
          ·split at h1
           ·split at h1
            ·exact fre (Afq hf hd hn hI hV ho hok hdst hv h1)
            ·simp [Rd.sat] at h1
           ·split at h1
            ·split at h1
             ·exact fre (Aey hf hd hn hI hV hn1 ho hok hdst hv h1)
             ·simp [Rd.sat] at h1
            ·exact fre (Sa hf hd hn hI hV ho hok hdst hv h1)
    ·rename_i hf
     split at h1
     ·rename_i hc; exact fre (Ade hf hc.1 hd hn hI hV hc.2 ho hok hdst hv h1)
     ·simp [Rd.sat] at h1
 ·simp [Rd.sat] at h
end
end
section
def Rd.run (AF : FuncId → List T → T → Prop) : Rd → Env → (List (Nat × Slot) → List Nat → Prop) → Prop
 | .fail, _, _ => False
 | .done ups, _, K => K ups []
 | .rd t k, env, K => (k (lk env t)).run AF env fun U R => K U (t :: R)
 | .need p k, env, K => p ∧ k.run AF env K
 | .call f args ups, _, K => ∃ r, AF f args r ∧ K (ups r) []
theorem Rd.run_sat {AF : FuncId → List T → T → Prop} : ∀ (r : Rd) (env : Env) (K : List (Nat × Slot) → List Nat → Prop), r.run AF env K → ∃ U R, r.sat AF env U R ∧ K U R
 | .fail, _, _, h => h.elim
 | .done ups, _, _, h => ⟨ups, [], ⟨rfl, rfl⟩, h⟩
 | .rd t k, env, K, h => by
  obtain ⟨U, R, h1, h2⟩ := Rd.run_sat (k (lk env t)) env _ h
  exact ⟨U, t :: R, ⟨R, h1, rfl⟩, h2⟩
 | .need p k, env, K, h => by
  obtain ⟨U, R, h1, h2⟩ := Rd.run_sat k env _ h.2
  exact ⟨U, R, ⟨h.1, h1⟩, h2⟩
 | .call f args ups, _, K, h => by
  obtain ⟨r, h1, h2⟩ := h
  exact ⟨ups r, [], ⟨r, h1, rfl, rfl⟩, h2⟩
def skipRd (d : Option Nat) : Rd :=
 match d with
 | none => .done []
 | some d => .rd d fun s => .done [(d, ⟨verOf s, .undef⟩)]
def gRd (tt : Tt) (md : FuncId → List Bool) (ops : Array Oper) (i : Nat) (o : Oper) : Rd :=
 match o.guard with
 | none => opRd tt md i o
 | some (j, want) => match (ops[j]?).bind (·.dst) with
  | none => .fail
  | some t => if t < 1000000 then .rd t fun
   | some ⟨_, .val (.bool b)⟩ => if b = want then opRd tt md i o else skipRd o.dst
   | some ⟨_, .undef⟩ => skipRd o.dst
   | _ => .fail
   else .fail
section
variable {C : Ctx} {env : Env} {V : Nat → Value} {w : World} {κ : Kap} {a : Act} {AF : FuncId → List T → T → Prop} {U : List (Nat × Slot)} {R : List Nat} {n : Nat}
variable {tt : Tt} {P : Program}
theorem Xm (hF : FR C n env a w) {t k : Nat} {b : Bool} (ht : t < 1000000) (h : lk env t = some ⟨k, .val (.bool b)⟩) : a.tmps.getD t undef = .bool b := by
 obtain ⟨_, _, κ, V, hI, hV⟩ := hF
 obtain ⟨_, h2⟩ := hI.val t k _ h
 rw [← hV t ht]
 exact HV.bool ⟨rfl, t, h2⟩
theorem Afb (hF : FR C n env a w) {t k : Nat} (ht : t < 1000000) (h : lk env t = some ⟨k, .undef⟩) : a.tmps.getD t undef = undef := by
 obtain ⟨_, _, κ, V, hI, hV⟩ := hF
 rw [← hV t ht]
 exact hI.und t k h
theorem Xp (hF : FR C n env a w) {d : Option Nat} (hdn : ∀ t : Nat, d = some t → t < n) (h : (skipRd d).sat AF env U R) : FR C n (U ++ env) (a.put d undef) w := by
 obtain ⟨hd, hn, κ, V, hI, hV⟩ := hF
 cases d with
 | none =>
  simp only [skipRd, Rd.sat] at h
  obtain ⟨rfl, _⟩ := h
  exact ⟨hd, hn, κ, V, hI, hV⟩
 | some d =>
  simp only [skipRd, Rd.sat] at h
  obtain ⟨R', ⟨rfl, _⟩, _⟩ := h
  refine ⟨by rw [G7]; exact hd, by rw [Ju]; exact hn, κ, upd V d undef, hI.bindUndef d _ (Nat.le_refl _), fun t ht => ?_⟩
  rw [Kd (by rw [hn]; exact hdn d rfl)]
  by_cases e : t = d
  ·simp [e, upd]
  ·rw [Aq _ _ _ _ e, if_neg e]; exact hV t ht
theorem Tp {ops : Array Oper} {j t : Nat} {b : Bool} (h : (ops[j]?).bind (·.dst) = some t) (hv : a.tmps.getD t undef = .bool b) : yielded ops a.tmps j = some b := by
 unfold yielded
 rw [h]
 simp only [Option.bind_some]
 rw [Array.getD_eq_getD_getElem?] at hv
 cases hx : a.tmps[t]? with
 | none => rw [hx] at hv; simp [undef] at hv
 | some x => rw [hx] at hv; simp at hv; subst hv; rfl
theorem Tm {ops : Array Oper} {j t : Nat} (h : (ops[j]?).bind (·.dst) = some t) (hv : a.tmps.getD t undef = undef) : yielded ops a.tmps j = none := by
 unfold yielded
 rw [h]
 simp only [Option.bind_some]
 rw [Array.getD_eq_getD_getElem?] at hv
 cases hx : a.tmps[t]? with
 | none => rfl
 | some x => rw [hx] at hv; simp at hv; subst hv; rfl
theorem Ml {P : Program} {ops : Array Oper} {Q : Exit → Act → World → Prop} {i : Nat} {K : Act → World → Prop} {o : Oper} (ho : ops[i]? = some o) (hw : Region.wanted o (yielded ops a.tmps) = true) (h : o.wp P a w K Q) : wpOp P ops Q i K a w := by
 unfold wpOp
 simp only [ho, hw, if_true]
 exact .inl h
theorem Q3 {P : Program} {ops : Array Oper} {Q : Exit → Act → World → Prop} {i : Nat} {K : Act → World → Prop} {o : Oper} (ho : ops[i]? = some o) (hw : Region.wanted o (yielded ops a.tmps) = false) (h : K (a.put o.dst undef) w) : wpOp P ops Q i K a w := by
 unfold wpOp
 simp only [ho, hw, Bool.false_eq_true, if_false]
 exact h
theorem Lm (hP : TtOk C.P tt) (md : FuncId → List Bool) (hF : FR C n env a w) (hn1 : n ≤ 1000000) {ops : Array Oper} {i : Nat} {o : Oper} (ho : ops[i]? = some o) (hok : opOk n o = true)
  (h : (gRd tt md ops i o).sat (AFn C.P) env U R) {Q : Exit → Act → World → Prop} {K : Act → World → Prop} (hK : ∀ a' w', FRe C n (U ++ env) a' w' → K a' w') : wpOp C.P ops Q i K a w := by
 haveI : Small n := ⟨hn1⟩
 have hdn : ∀ t : Nat, o.dst = some t → t < n := fun t ht => Ap hok t ht
 unfold gRd at h
 split at h
 ·rename_i hg
  exact Ml ho (by simp [Region.wanted, hg]) (Oper.wp_mono hK (Ud hP md hF hn1 hok h))
 ·rename_i j want hg
  split at h
  ·simp [Rd.sat] at h
  ·rename_i t hj
   split at h
   ·rename_i ht
    simp only [Rd.sat] at h
    obtain ⟨R', h, rfl⟩ := h
    split at h
    ·rename_i k b hl
     have hy := Tp hj (Xm hF ht hl)
     split at h
     ·rename_i hb
      exact Ml ho (by simp [Region.wanted, hg, hy, hb]) (Oper.wp_mono hK (Ud hP md hF hn1 hok h))
     ·rename_i hb
      exact Q3 ho (by simpa [Region.wanted, hg, hy] using hb) (hK _ _ (Xp hF hdn h).e)
    ·rename_i k hl
     have hy := Tm hj (Afb hF ht hl)
     exact Q3 ho (by simp [Region.wanted, hg, hy]) (hK _ _ (Xp hF hdn h).e)
    ·simp [Rd.sat] at h
   ·simp [Rd.sat] at h
end
def rgn (AF : FuncId → List T → T → Prop) (chk : List (List Nat × List Nat) → Prop) (Q : Env → Prop) : List Rd → Env → List (List Nat × List Nat) → Prop
 | [], env, acc => chk acc.reverse ∧ Q env
 | r :: rs, env, acc => r.run AF env fun U R => rgn AF chk Q rs (U ++ env) ((U.map (·.1), R) :: acc)
inductive Txt (AF : FuncId → List T → T → Prop) : List Rd → Env → List (List (Nat × Slot) × List Nat) → Env → Prop where
 | nil (env : Env) : Txt AF [] env [] env
 | cons (r : Rd) (rs : List Rd) (env : Env) (U : List (Nat × Slot)) (R : List Nat) (tr : List (List (Nat × Slot) × List Nat)) (env' : Env) (h : r.sat AF env U R) (h2 : Txt AF rs (U ++ env) tr env') : Txt AF (r :: rs) env ((U, R) :: tr) env'
theorem I0 {AF : FuncId → List T → T → Prop} {chk : List (List Nat × List Nat) → Prop} {Q : Env → Prop} : ∀ (rs : List Rd) (env : Env) (acc : List (List Nat × List Nat)), rgn AF chk Q rs env acc →
  ∃ tr env', Txt AF rs env tr env' ∧ chk (acc.reverse ++ tr.map fun x => (x.1.map (·.1), x.2)) ∧ Q env'
 | [], env, acc, h => ⟨[], env, .nil env, by simpa using h.1, h.2⟩
 | r :: rs, env, acc, h => by
  obtain ⟨U, R, h1, h2⟩ := Rd.run_sat r env _ h
  obtain ⟨tr, env', h3, h4, h5⟩ := I0 rs _ _ h2
  exact ⟨_, env', .cons r rs env U R tr env' h1 h3, by simpa using h4, h5⟩
def gRds (tt : Tt) (md : FuncId → List Bool) (ops : Array Oper) : List Oper → Nat → List Rd
 | [], _ => []
 | o :: l, i => gRd tt md ops i o :: gRds tt md ops l (i + 1)
section
variable {C : Ctx} {n : Nat} {tt : Tt}
theorem Txt.text {P : Program} (hP : TtOk P tt) (md : FuncId → List Bool) (hn1 : n ≤ 1000000) {ops : Array Oper} {C0 : Ctx} {Q : Exit → Act → World → Prop} : ∀ (l : List Oper) (i : Nat) (env : Env) (a : Act) (w : World) (tr : List (List (Nat × Slot) × List Nat)) (env' : Env) (C : Ctx), C.P = P → Ext C0 C →
  (∀ j, ops[i + j]? = l[j]?) → (∀ o ∈ l, opOk n o = true) → FR C n env a w → Txt (AFn P) (gRds tt md ops l i) env tr env' → (∀ a' w', FRe C0 n env' a' w' → Q .normal a' w') →
  wpOps P ops Q (List.range' i l.length) a w
 | [], i, env, a, w, tr, env', C, hCP, hE, _, _, hF, ht, hQ => by
  cases ht
  exact hQ a w ⟨C, hE, hF⟩
 | o :: l, i, env, a, w, tr, env', C, hCP, hE, hl, hok, hF, ht, hQ => by
  cases ht with
  | cons _ _ _ U R tr' _ h h2 =>
   subst hCP
   rw [List.length_cons, List.range'_succ, wpOps_cons]
   exact Lm hP md hF hn1 (by simpa using hl 0) (hok o (by simp)) h (fun a' w' ⟨C', hE', hF'⟩ =>
    Txt.text hP md hn1 l (i + 1) _ a' w' tr' env' C' hE'.P (hE.trans hE') (fun j => by have := hl (j + 1); simpa [Nat.add_assoc, Nat.add_comm 1 j] using this) (fun o ho => hok o (by simp [ho])) hF' h2 hQ)
theorem Vj (hP : TtOk C.P tt) (md : FuncId → List Bool) (hn1 : n ≤ 1000000) {ops : Array Oper} {id : Nat} {env : Env} {a : Act} {w : World} {Q : Exit → Act → World → Prop} {QE : Env → Prop} (hok : ops.toList.all (opOk n) = true) (hF : FR C n env a w)
  (h : rgn (AFn C.P) (fun _ => True) QE (gRds tt md ops ops.toList 0) env []) (hQ : ∀ env' a' w', QE env' → FRe C n env' a' w' → Q .normal a' w') : (Code.region id ops false).wp C.P Q a w := by
 obtain ⟨tr, env', h1, _, h2⟩ := I0 _ _ _ h
 refine wp_region ?_
 have := Txt.text (Q := Q) (C0 := C) hP md hn1 ops.toList 0 env a w tr env' C rfl (.refl C) (fun j => by simp) (fun o ho => by simpa using List.all_eq_true.1 hok o ho) hF h1 (fun a' w' hF' => hQ env' a' w' h2 hF')
 rw [List.range_eq_range']
 simpa using this
end
end
end Go.Proofs.YtapdekacpecgiaaGreat

/-
  The generic part, ninth text: what an operation reads and what it turns, told as a small program over the slots.
-/
import Derived.Test.YtjkhggbjkkobaaaMetaH
namespace Go.Proofs.Ytjkhggbjkkobaaa
open Go.RowKit

/-- What is to be known of a type. -/
inductive TK where
  | plain
  | bool
  | int (k : IntKind)
  | slice (e : TypeId)
  | struct (fs : List (TypeId × Nat × Nat))

structure Ty where
  size : Nat
  bytes : Nat
  zero : T
  kind : TK

abbrev Tt := List (TypeId × Ty)

def tyAt : Tt → TypeId → Option Ty
  | [], _ => none
  | (u, i) :: r, t => if u = t then some i else tyAt r t

mutual
/-- The cells of plain data. -/
def T.zc : T → List Value
  | .int k n => [.int k n]
  | .bool b => [.bool b]
  | .str s => [s.val]
  | .nil => [.slice none 0 0]
  | .agg l => T.zcL l
  | _ => []
def T.zcL : List T → List Value
  | [] => []
  | t :: l => t.zc ++ T.zcL l
end

mutual
/-- Every cell of it is known. -/
def T.solid : T → Bool
  | .any => false
  | .tup _ => false
  | .agg l => T.solidL l
  | _ => true
def T.solidL : List T → Bool
  | [] => true
  | t :: l => t.solid && T.solidL l
end

mutual
def T.plain : T → Bool
  | .int .. => true
  | .bool _ => true
  | .str _ => true
  | .nil => true
  | .agg l => T.plainL l
  | _ => false
def T.plainL : List T → Bool
  | [] => true
  | t :: l => t.plain && T.plainL l
end

def TyOk (P : Program) (t : TypeId) (i : Ty) : Prop :=
  (P.info? t).map (fun x => (x.zero, x.size, x.bytes)) = some (some (mkv i.zero i.zero.zc), i.size, i.bytes) ∧ i.zero.plain = true ∧ i.zero.size = i.size ∧
  match i.kind with
  | .plain => (P.underlying t).map (fun d => match d with | .struct _ => true | .array _ _ => true | _ => false) = some false ∧ i.zero.isAgg = false
  | .bool => P.underlying t = some .bool ∧ i.zero.isAgg = false
  | .int k => P.underlying t = some (.int k) ∧ i.zero.isAgg = false
  | .slice e => P.underlying t = some (.slice e) ∧ i.zero.isAgg = false
  | .struct fs => (P.underlying t).bind (fun d => match d with | .struct fields => some (fields.toList.map fun f => (f.type, f.offset, P.cellsOf f.type)) | _ => none) = some fs ∧ i.zero.isAgg = true

def TtOk (P : Program) (tt : Tt) : Prop := ∀ t i, tyAt tt t = some i → TyOk P t i

/-- A reader of slots. -/
inductive Rd where
  | fail
  | done (ups : List (Nat × Slot))
  | rd (t : Nat) (k : Option Slot → Rd)
  | need (p : Prop) (k : Rd)
  | call (f : FuncId) (args : List T) (ups : T → List (Nat × Slot))

/-- It runs so: these updates, these slots read. -/
def Rd.sat (AF : FuncId → List T → T → Prop) : Rd → Env → List (Nat × Slot) → List Nat → Prop
  | .fail, _, _, _ => False
  | .done ups, _, U, R => U = ups ∧ R = []
  | .rd t k, env, U, R => ∃ R', (k (lk env t)).sat AF env U R' ∧ R = t :: R'
  | .need p k, env, U, R => p ∧ k.sat AF env U R
  | .call f args ups, _, U, R => ∃ r, AF f args r ∧ U = ups r ∧ R = []

/-- What it read is all that it leans on. -/
theorem Rd.sat_local {AF : FuncId → List T → T → Prop} : ∀ (r : Rd) (env env' : Env) (U : List (Nat × Slot)) (R : List Nat), r.sat AF env U R → (∀ t ∈ R, lk env' t = lk env t) → r.sat AF env' U R
  | .fail, _, _, _, _, h, _ => h
  | .done _, _, _, _, _, h, _ => h
  | .rd t k, env, env', U, R, h, hl => by
    obtain ⟨R', h1, rfl⟩ := h
    refine ⟨R', ?_, rfl⟩
    rw [hl t (by simp)]
    exact Rd.sat_local (k (lk env t)) env env' U R' h1 (fun u hu => hl u (by simp [hu]))
  | .need p k, env, env', U, R, h, hl => ⟨h.1, Rd.sat_local k env env' U R h.2 hl⟩
  | .call .., _, _, _, _, h, _ => h

def constT : Value → Option T
  | .int k n => some (.int k n)
  | .bool b => some (.bool b)
  | .string s => some (.str (.str s))
  | .nilFunc => some (.str .nilFunc)
  | .slice none 0 0 => some .nil
  | _ => none

/-- An operand's data: handles, where a slot has a tree of its own. -/
def rdv (x : Operand) (c : T → Rd) : Rd :=
  match x with
  | .const v => match constT v with
    | some t => c t
    | none => .fail
  | .tmp t => .rd t fun
    | some ⟨_, .val y⟩ => c y
    | some ⟨k, .own y⟩ => c (T.borrow t k [] y)
    | _ => .fail
  | .func f => c (.fn f [])
  | .global _ => .fail

/-- A row of operands, read. -/
def rdvL : List Operand → (List T → Rd) → Rd
  | [], c => c []
  | x :: l, c => rdv x fun v => rdvL l fun vs => c (v :: vs)

/-- The block behind a handle. -/
def rdn (s k : Nat) (p : List Nat) (c : T → T → Rd) : Rd :=
  .rd s fun
    | some ⟨k', .own T0⟩ => if k' = k then
        match T.get p T0 with
        | some n => if n.isNode then c T0 n else .fail
        | none => .fail
      else .fail
    | _ => .fail

/-- The end: data into the slot. -/
def fin (d : Option Nat) (x : T) : Rd :=
  match d with
  | none => .done []
  | some d => .rd d fun s => .done [(d, ⟨verOf s, .val x⟩)]

/-- .. a new tree into the slot, elder places turned. -/
def finOwn (d : Option Nat) (x : T) (ups : List (Nat × Slot)) : Rd :=
  match d with
  | none => .fail
  | some d => .rd d fun s => .done ((d, ⟨verOf s + 1, .own x⟩) :: ups)

/-- The place of the one handle in a row of data. -/
def holeAt : List T → Option (Nat × Nat × Nat × List Nat)
  | [] => none
  | .ref s k p :: _ => some (0, s, k, p)
  | _ :: l => (holeAt l).map fun x => (x.1 + 1, x.2)

/-- Data with at most one handle, the handle's tree taken out of its place. 'd': the slot that will hold it (not the one that held it). -/
def take (d : Nat) (v : T) (c : T → List (Nat × Slot) → Rd) : Rd :=
  if v.pure && v.refFree then c v []
  else match v with
    | .ref s k p => if s = d then .fail else rdn s k p fun T0 n => c n [(s, ⟨k, .own (T.set .any p T0)⟩)]
    | .agg l => match holeAt l with
      | some (j, s, k, p) => if s = d then .fail else if T.pureL (l.eraseIdx j) && T.refFreeL (l.eraseIdx j) then rdn s k p fun T0 n => c (.agg (l.set j n)) [(s, ⟨k, .own (T.set .any p T0)⟩)] else .fail
      | none => .fail
    | _ => .fail

mutual
/-- Data as a callee may read it: what a handle leads to, frozen. -/
def resolve : T → (T → Rd) → Rd
  | .ref s k p, c => rdn s k p fun _ n => c n.freeze
  | .addr s k p off sub, c => if sub = [0] then rdn s k p fun _ n => .need (off = 0) (match n with | .box e t => c (T.freeze (.box e t)) | _ => .fail) else .fail
  | .agg l, c => resolveL l fun l' => c (.agg l')
  | .fn f l, c => resolveL l fun l' => c (.fn f l')
  | .sl false e l, c => c (.sl false e l)
  | .fptr t, c => c (.fptr t)
  | .int k n, c => c (.int k n)
  | .bool b, c => c (.bool b)
  | .str s, c => c (.str s)
  | .nil, c => c .nil
  | _, _ => .fail
def resolveL : List T → (List T → Rd) → Rd
  | [], c => c []
  | t :: l, c => resolve t fun t' => resolveL l fun l' => c (t' :: l')
end

/-- A call's operands, where none is handed over, or one: taken out of its place; the others are data. -/
def pureRd : List Operand → (List T → Rd) → Rd
  | [], c => c []
  | x :: l, c => rdv x fun v => if v.pure && v.refFree then pureRd l fun vs => c (v :: vs) else .fail

def giveRd (d : Nat) : List (Operand × Bool) → (List T → List (Nat × Slot) → Rd) → Rd
  | [], c => c [] []
  | (x, false) :: l, c => rdv x fun v => if v.pure && v.refFree then giveRd d l fun vs ups => c (v :: vs) ups else .fail
  | (x, true) :: l, c => rdv x fun v => take d v fun v' ups => pureRd (l.map (·.1)) fun vs => c (v' :: vs) ups

def zipB : List Operand → List Bool → List (Operand × Bool)
  | [], _ => []
  | x :: l, [] => (x, false) :: zipB l []
  | x :: l, b :: bs => (x, b) :: zipB l bs

def mkSV (x : T) : SV := if x.noOwn then .val x else .own x

def wrapInt (op : BinOp) (k : IntKind) (a b : Int) : Rd → (T → Rd) → Rd := fun _ c =>
  match op with
  | .add => c (.int k (k.wrap (a + b)))
  | .sub => c (.int k (k.wrap (a - b)))
  | .mul => c (.int k (k.wrap (a * b)))
  | .quo => .need (b ≠ 0) (c (.int k (k.wrap (a.tdiv b))))
  | .rem => .need (b ≠ 0) (c (.int k (a.tmod b)))
  | .eql => c (.bool (a == b))
  | .neq => c (.bool (a != b))
  | .lss => c (.bool (decide (a < b)))
  | .leq => c (.bool (decide (a ≤ b)))
  | .gtr => c (.bool (decide (a > b)))
  | .geq => c (.bool (decide (a ≥ b)))
  | _ => .fail

def isBoolTy (tt : Tt) (t : TypeId) : Bool :=
  match tyAt tt t with
  | some ⟨_, _, _, .bool⟩ => true
  | _ => false

def binRd (isB : Bool) (op : BinOp) (x y : T) (c : T → Rd) : Rd :=
  match x, y with
  | .int k a, .int k' b => if k = k' then wrapInt op k a b .fail c else .fail
  | .bool a, .bool b => if isB then
      (match op with
      | .eql => c (.bool (a == b))
      | .neq => c (.bool (!(a == b)))
      | _ => .fail)
    else .fail
  | _, _ => .fail

def unRd (op : UnOp) (x : T) (c : T → Rd) : Rd :=
  match op, x with
  | .neg, .int k a => c (.int k (k.wrap (0 - a)))
  | .not, .bool b => c (.bool (!b))
  | _, _ => .fail

/-- A slice's elements, read. -/
def elems (v : T) (c : List T → Rd) : Rd :=
  match v with
  | .sl false _ l => c l
  | .nil => c []
  | .ref s k p => rdn s k p fun _ n => match n with
    | .sl true _ l => c l
    | _ => .fail
  | _ => .fail

/-- .. of the right element type. -/
def elemsE (e : TypeId) (v : T) (c : List T → Rd) : Rd :=
  match v with
  | .sl false e' l => if e' = e then c l else .fail
  | .nil => c []
  | .ref s k p => rdn s k p fun _ n => match n with
    | .sl true e' l => if e' = e then c l else .fail
    | _ => .fail
  | _ => .fail

def virt (i : Nat) : Nat := 1000000 + i

/-- The first operand of append, taken: its elements, and whose tree turns. -/
def appendBase (e : TypeId) (d : Nat) (x : T) (c : List T → List (Nat × Slot) → Rd) : Rd :=
  match x with
  | .nil => c [] []
  | .ref s k p => if s = d then .fail else rdn s k p fun T0 n => match n with
    | .sl true e' l => if e' = e then c l [(s, ⟨k, .own (T.set .any p T0)⟩)] else .fail
    | _ => .fail
  | _ => .fail

/-- The slots behind a call that writes into what its first argument leads to: the place of the handle there is q. -/
def ioUps (d : Nat) (sd : Option Slot) (s k : Nat) (p : List Nat) (T0 : T) (q : List Nat) (r : T) : List (Nat × Slot) :=
  match r with
  | .tup [r1, A] => match T.get q A with
    | some n => [(d, ⟨verOf sd + 1, .val r1⟩), (s, ⟨k + 1, .own (T.set n p T0)⟩)]
    | none => []
  | _ => []

/-- A call f(x, y) that writes into what x leads to. -/
def ioRd (d : Nat) (f : FuncId) (x y : Operand) : Rd :=
  rdv x fun v => rdv y fun u => match u with
    | .int ku nu => (match v with
      | .ref s k p => if s = d then .fail else rdn s k p fun T0 n => .rd d fun sd => .call (1000000 + f) [n, .int ku nu] (ioUps d sd s k p T0 [])
      | .agg l => (match holeAt l with
        | some (j, s, k, p) => if s = d then .fail else if T.pureL (l.eraseIdx j) && T.refFreeL (l.eraseIdx j) then
            rdn s k p fun T0 n => .rd d fun sd => .call (1000000 + f) [.agg (l.set j n), .int ku nu] (ioUps d sd s k p T0 [j])
          else .fail
        | none => .fail)
      | _ => .fail)
    | _ => .fail

def callRd (md : FuncId → List Bool) (o : Oper) (f : FuncId) (args : List Operand) (caps : List T) (i : Nat) : Rd :=
  match o.dst with
  | none => .fail
  | some d => if f < 1000000 then
    if (md f).length = 9 then
      (match caps, args with
      | [], [x, y] => rdv x fun v => if v.pure && v.refFree then
          rdvL [x, y] fun vs => resolveL vs fun vs' => resolveL [] fun cs => .rd d fun s => .call f (vs' ++ cs) fun r => [(d, ⟨verOf s + 1, mkSV r⟩)]
        else ioRd d f x y
      | _, _ => .fail)
    else if (md f).any id then
      (match caps with
      | [] => giveRd (virt i) (zipB args (md f)) fun vs ups => .rd d fun s => .rd (virt i) fun sv => .call f vs fun r => (d, ⟨verOf s + 1, mkSV r⟩) :: (match ups with | [] => [] | u :: us => (virt i, ⟨verOf sv + 1, .val .any⟩) :: u :: us)
      | _ => .fail)
    else rdvL args fun vs => resolveL vs fun vs' => resolveL caps fun cs => .rd d fun s => .call f (vs' ++ cs) fun r => [(d, ⟨verOf s + 1, mkSV r⟩)]
    else .fail

def builtinRd (tt : Tt) (o : Oper) (b : Builtin) (args : List Operand) (argTypes : List TypeId) (i : Nat) : Rd :=
  match b, args, argTypes with
  | .len, [x], [t] => match tyAt tt t with
    | some ⟨_, _, _, .slice _⟩ => rdv x fun v => elems v fun l => fin o.dst (.int .i64 l.length)
    | _ => .fail
  | .max, [x, y], _ => rdv x fun v => rdv y fun u => match v, u with
    | .int k a, .int _ b => fin o.dst (.int k (if b > a then b else a))
    | _, _ => .fail
  | .min, [x, y], _ => rdv x fun v => rdv y fun u => match v, u with
    | .int k a, .int _ b => fin o.dst (.int k (if b < a then b else a))
    | _, _ => .fail
  | .append, [x, y], [t, t'] => if t = t' then match tyAt tt t with
    | some ⟨_, _, _, .slice e⟩ => match tyAt tt e with
      | some ie => rdv x fun v => rdv y fun u => appendBase e (virt i) v fun l ups => elemsE e u fun l2 =>
          .need (0 < ie.size ∧ l.length + l2.length ≤ 1099511627776 ∧ (l.length + l2.length) * ie.bytes ≤ 140737488355328) <|
          (if T.pureL l2 && T.refFreeL l2 && l2.all T.plain then
            match ups with
            | [] => if l2.isEmpty then fin o.dst .nil else finOwn o.dst (.sl true e l2) []
            | _ => .rd (virt i) fun sv => finOwn o.dst (.sl true e (l ++ l2)) ((virt i, ⟨verOf sv + 1, .val .any⟩) :: ups)
          else .fail)
      | _ => .fail
    | _ => .fail
    else .fail
  | _, _, _ => .fail

/-- Data whose cells are known one by one. -/
def vetted (v : T) (c : Rd) : Rd :=
  match v with
  | .ref s k p => rdn s k p fun _ _ => c
  | v => if v.solid && v.refFree then c else .fail

/-- A struct's parts, one after the other. -/
def buildRd (fs : List (TypeId × Nat × Nat)) : List (Nat × Operand) → List T → (List T → Rd) → Rd
  | [], acc, c => c acc
  | (j, x) :: l, acc, c => rdv x fun v => vetted v <| match acc[j]?, fs[j]? with
    | some z, some (_, offf, szf) => .need (T.sizeL (acc.take j) = offf ∧ z.size = szf ∧ v.size = szf) (buildRd fs l (acc.set j v) c)
    | _, _ => .fail

def intRd (v : T) (c : Int → Rd) : Rd :=
  match v with
  | .int _ n => c n
  | _ => .fail

/-- A bound of a slice expression. -/
def boundRd (x : Option Operand) (dflt : Int) (c : Int → Rd) : Rd :=
  match x with
  | none => c dflt
  | some y => rdv y fun v => intRd v c

/-- What an operation reads, what it turns. -/
def opRd (tt : Tt) (md : FuncId → List Bool) (i : Nat) (o : Oper) : Rd :=
  match o.op with
  | .move x => rdv x (fin o.dst)
  | .assign x => rdv x fun v => match v, o.dst with
    | .ref s k p, some d => if s = d then fin o.dst v else rdn s k p fun T0 n =>
        match p, T0 with
        | [], _ => .rd d fun sd => .done [(s, ⟨k, .val (.ref d (verOf sd + 1) [])⟩), (d, ⟨verOf sd + 1, .own n⟩)]
        | [_], .tup _ => .rd d fun sd => .done [(d, ⟨verOf sd + 1, .own n⟩), (s, ⟨k, .own (T.set .any p T0)⟩)]
        | _, _ => fin o.dst v
    | v, _ => fin o.dst v
  | .pick c a b => rdv c fun
    | .bool t => if t then rdv a (fin o.dst) else rdv b (fin o.dst)
    | _ => .fail
  | .alloc e => match tyAt tt e with
    | some ie => finOwn o.dst (.box e ie.zero) []
    | none => .fail
  | .box e x => match tyAt tt e with
    | some ie => rdv x fun v => take (virt i) v fun v' ups => .need (v'.size = ie.size ∧ v'.solid = true) <| match ups with
      | [] => finOwn o.dst (.box e v') []
      | _ => .rd (virt i) fun sv => finOwn o.dst (.box e v') ((virt i, ⟨verOf sv + 1, .val .any⟩) :: ups)
    | none => .fail
  | .load t x => match tyAt tt t with
    | some it => rdv x fun
      | .addr s k p off sub => rdn s k p fun _ n => match n.part sub with
        | some t0 => .need (off = n.offN sub ∧ t0.size = it.size ∧ t0.isAgg = it.zero.isAgg) (fin o.dst (T.borrow s k (p ++ sub) t0))
        | none => .fail
      | .fptr t0 => .need (t0.size = it.size ∧ t0.isAgg = it.zero.isAgg) (fin o.dst t0)
      | _ => .fail
    | none => .fail
  | .store t x y => match tyAt tt t, o.dst with
    | some it, none => rdv x fun
      | .addr s k p off sub => rdv y fun v => take (virt i) v fun v' ups => rdn s k p fun T0 n => match n.part sub with
        | some t0 => .need (off = n.offN sub ∧ t0.size = it.size ∧ v'.size = t0.size ∧ v'.isAgg = t0.isAgg ∧ v'.solid = true) <| match ups with
          | [] => .done [(s, ⟨if v'.scalar && t0.scalar then k else k + 1, .own (T.set v' (p ++ sub) T0)⟩)]
          | (u, _) :: _ => if u = s ∨ s = virt i then .fail else .rd (virt i) fun sv => .done ((s, ⟨k + 1, .own (T.set v' (p ++ sub) T0)⟩) :: (virt i, ⟨verOf sv + 1, .val .any⟩) :: ups)
        | none => .fail
      | _ => .fail
    | _, _ => .fail
  | .fieldAddr t x f => match tyAt tt t with
    | some ⟨_, _, _, .struct fs⟩ => match fs[f]? with
      | some (_, offf, szf) => .need (szf ≠ 0) <| rdv x fun
        | .addr s k p off sub => rdn s k p fun _ _ => fin o.dst (.addr s k p (off + offf) (sub ++ [f]))
        | .fptr (.agg l) => match l[f]? with
          | some t0 => .need (T.sizeL (l.take f) = offf) (fin o.dst (.fptr t0))
          | none => .fail
        | _ => .fail
      | none => .fail
    | _ => .fail
  | .field t x f => match tyAt tt t with
    | some ⟨_, _, _, .struct fs⟩ => match fs[f]? with
      | some (tf, offf, szf) => match tyAt tt tf with
        | some itf => rdv x fun
          | .agg l => match l[f]? with
            | some t0 => .need (T.sizeL (l.take f) = offf ∧ t0.size = szf ∧ t0.isAgg = itf.zero.isAgg) (fin o.dst t0)
            | none => .fail
          | _ => .fail
        | none => .fail
      | none => .fail
    | _ => .fail
  | .indexAddr t x y => match tyAt tt t with
    | some ⟨_, _, _, .slice e⟩ => match tyAt tt e with
      | some ie => rdv x fun v => rdv y fun u => intRd u fun n => match v with
        | .ref s k p => rdn s k p fun _ nd => match nd with
          | .sl true e' l => .need (e' = e ∧ 0 ≤ n ∧ n < l.length) (fin o.dst (.addr s k p (n.toNat * ie.size) [n.toNat]))
          | _ => .fail
        | .sl false e' l => .need (e' = e ∧ 0 ≤ n ∧ n < l.length) (fin o.dst (.fptr (l.getD n.toNat .any)))
        | _ => .fail
      | none => .fail
    | _ => .fail
  | .slice t x lo hi none => match tyAt tt t with
    | some ⟨_, _, _, .slice e⟩ => match tyAt tt e with
      | some _ => rdv x fun
        | .sl false e' l =>
          boundRd lo 0 fun a => boundRd hi l.length fun b => .need (e' = e ∧ 0 ≤ a ∧ a ≤ b ∧ b ≤ l.length) (fin o.dst (.sl false e ((l.take b.toNat).drop a.toNat)))
        | _ => .fail
      | none => .fail
    | _ => .fail
  | .makeSlice t x y => match tyAt tt t with
    | some ⟨_, _, _, .slice e⟩ => match tyAt tt e with
      | some ie => rdv x fun v => rdv y fun u => match v, u with
        | .int .i64 n, .int .i64 m => .need (n = m ∧ 0 ≤ n ∧ n ≤ 1099511627776 ∧ ie.bytes ≤ 64 ∧ ie.size = 1 ∧ ie.zero.isAgg = false) (finOwn o.dst (.sl true e (List.replicate n.toNat ie.zero)) [])
        | _, _ => .fail
      | none => .fail
    | _ => .fail
  | .buildSlice t n parts => match tyAt tt t with
    | some ⟨_, _, _, .slice e⟩ => match tyAt tt e with
      | some ie => if ie.size = 1 ∧ parts.toList.map (·.1) = List.range n ∧ n ≤ 1000 ∧ ie.zero.isAgg = false then
          rdvL (parts.toList.map (·.2)) fun vs => if vs.all (fun v => v.plain && !v.isAgg) then .need (∀ v ∈ vs, v.size = 1) (finOwn o.dst (.sl true e vs) []) else .fail
        else .fail
      | none => .fail
    | _ => .fail
  | .build t parts => match tyAt tt t with
    | some ⟨_, _, .agg zs, .struct fs⟩ => if fs.all (fun x => x.2.2 != 0) = false then .fail else
        buildRd fs parts.toList zs fun l => fin o.dst (.agg l)
    | _ => .fail
  | .binOp op t x y _ => rdv x fun v => rdv y fun u => binRd (isBoolTy tt t) op v u (fin o.dst)
  | .unOp op _ x => rdv x fun v => unRd op v (fin o.dst)
  | .convert s t x => match tyAt tt s with
    | some _ => match tyAt tt t with
      | some ⟨_, _, _, .int k⟩ => rdv x fun v => intRd v fun n => fin o.dst (.int k (k.wrap n))
      | _ => .fail
    | none => .fail
  | .extract x j => rdv x fun
    | .tup l => match l[j]? with
      | some t => fin o.dst t
      | none => .fail
    | _ => .fail
  | .makeFunc (.func f) first caps => if first.size = 0 then
      rdvL caps.toList fun vs => fin o.dst (.fn f vs) else .fail
  | .call c => match c.callee with
    | .builtin b => builtinRd tt o b c.args.toList c.argTypes.toList i
    | .value x => rdv x fun
      | .fn f caps => callRd md o f c.args.toList caps i
      | _ => .fail
    | .invoke .. => .fail
  | _ => .fail

end Go.Proofs.Ytjkhggbjkkobaaa

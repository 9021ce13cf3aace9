/-
  The generic part, first text: trees for Go values, and what it means that cells of memory read as a tree. No program, no statement.
-/
import Derived.WalkKit
import Derived.ProofKit
namespace Go.Proofs.Ytjkhggbjkkobaaa
open Go.RowKit

/-- Constants that are neither numbers nor truth values. -/
inductive Con where
  | str (b : ByteArray)
  | nilFunc

def Con.val : Con → Value
  | .str b => .string b
  | .nilFunc => .nilFunc

/-- A Go value, told as a tree. 'sl true', 'box': this place alone holds the block. 'ref', 'addr': a handle to such a block, by the slot whose tree holds it. -/
inductive T where
  | int (k : IntKind) (n : Int)
  | bool (b : Bool)
  | str (s : Con)
  | any
  | nil
  | sl (o : Bool) (e : TypeId) (l : List T)
  | box (e : TypeId) (t : T)
  | fptr (t : T)
  | agg (l : List T)
  | tup (l : List T)
  | fn (f : FuncId) (caps : List T)
  | ref (s k : Nat) (p : List Nat)
  | addr (s k : Nat) (p : List Nat) (off : Nat) (sub : List Nat)
  deriving Inhabited

mutual
def T.size : T → Nat
  | .agg l => T.sizeL l
  | _ => 1
def T.sizeL : List T → Nat
  | [] => 0
  | t :: l => t.size + T.sizeL l
end

mutual
/-- It holds no block of its own. -/
def T.noOwn : T → Bool
  | .sl o _ _ => !o
  | .box _ _ => false
  | .agg l => T.noOwnL l
  | .tup l => T.noOwnL l
  | .fn _ l => T.noOwnL l
  | _ => true
def T.noOwnL : List T → Bool
  | [] => true
  | t :: l => t.noOwn && T.noOwnL l
end

mutual
/-- It holds no handle. -/
def T.refFree : T → Bool
  | .ref .. => false
  | .addr .. => false
  | .sl _ _ l => T.refFreeL l
  | .box _ t => t.refFree
  | .fptr t => t.refFree
  | .agg l => T.refFreeL l
  | .tup l => T.refFreeL l
  | .fn _ l => T.refFreeL l
  | _ => true
def T.refFreeL : List T → Bool
  | [] => true
  | t :: l => t.refFree && T.refFreeL l
end

mutual
/-- It holds neither: data that nobody writes. -/
def T.pure : T → Bool
  | .ref .. => false
  | .addr .. => false
  | .sl o _ l => !o && T.pureL l
  | .box _ _ => false
  | .fptr t => t.pure
  | .agg l => T.pureL l
  | .tup l => T.pureL l
  | .fn _ l => T.pureL l
  | _ => true
def T.pureL : List T → Bool
  | [] => true
  | t :: l => t.pure && T.pureL l
end

/-- Cells as a value: a struct's together, any other's one cell. -/
def mkv : T → List Value → Value
  | .agg _, cs => .agg cs.toArray
  | _, cs => cs.headD undef

/-- What the reading of trees leans on. -/
structure Cx where
  sz : TypeId → Nat
  w : World
  F : Nat → Prop
  kap : Nat → Option (Nat × List Nat × Value)
  old : Nat → Nat → Prop
  node : Nat → Nat → List Nat → Prop

mutual
/-- The cells 'cs' read as the tree, at place p of slot s. -/
def CR (X : Cx) (s : Nat) : List Nat → T → List Value → Prop
  | _, .int k n, cs => cs = [.int k n]
  | _, .bool b, cs => cs = [.bool b]
  | _, .str b, cs => cs = [b.val]
  | _, .any, cs => ∃ v, cs = [v]
  | _, .nil, cs => cs = [.slice none 0 0]
  | p, .sl true e l, cs => ∃ b cap cur, cs = [.slice (some ⟨b, 0, none⟩) l.length cap] ∧ X.w.heap[b]? = some (.cells cur e (0, 0)) ∧
      X.kap b = some (s, p, .slice (some ⟨b, 0, none⟩) l.length cap) ∧ l.length ≤ cap ∧ cap ≤ maxLen ∧ cur.size = cap * X.sz e ∧ (∀ t ∈ l, t.size = X.sz e) ∧
      CRL X s p 0 l (cur.toList.take (l.length * X.sz e))
  | p, .sl false e l, cs => ∃ a cap, cs = [.slice a l.length cap] ∧ l.length ≤ cap ∧ cap ≤ maxLen ∧ (∀ t ∈ l, t.size = X.sz e) ∧ T.pureL l = true ∧
      (l ≠ [] → ∃ b off, a = some ⟨b, off, none⟩ ∧ X.F b ∧ ∃ cur e' fz, X.w.heap[b]? = some (.cells cur e' fz) ∧ off + l.length * X.sz e ≤ cur.size ∧
        CRL X s p 0 l ((cur.toList.drop off).take (l.length * X.sz e)))
  | p, .box e t, cs => ∃ b cur, cs = [.pointer (some ⟨b, 0, none⟩)] ∧ X.w.heap[b]? = some (.cells cur e (0, 0)) ∧
      X.kap b = some (s, p, .pointer (some ⟨b, 0, none⟩)) ∧ t.size = X.sz e ∧ cur.size = t.size ∧ CR X s (p ++ [0]) t cur.toList
  | p, .fptr t, cs => ∃ b off cur e fz, cs = [.pointer (some ⟨b, off, none⟩)] ∧ X.F b ∧ X.w.heap[b]? = some (.cells cur e fz) ∧ off + t.size ≤ cur.size ∧ t.pure = true ∧
      CR X s p t ((cur.toList.drop off).take t.size)
  | p, .agg l, cs => CRL X s p 0 l cs
  | p, .tup l, cs => ∃ vs, cs = [.tuple vs.toArray] ∧ CRT X s p 0 l vs
  | p, .fn f l, cs => ∃ vs, cs = [.func (.func f) #[] vs.toArray] ∧ CRT X s p 0 l vs
  | _, .ref s' k p', cs => ∃ v, cs = [v] ∧ X.old s' k ∧ (X.node s' k p' → ∃ b, X.kap b = some (s', p', v))
  | _, .addr s' k p' off _, cs => ∃ v, cs = [v] ∧ X.old s' k ∧ (X.node s' k p' → ∃ b h, X.kap b = some (s', p', h) ∧ v = .pointer (some ⟨b, off, none⟩))
/-- A row of trees, one behind the other. -/
def CRL (X : Cx) (s : Nat) : List Nat → Nat → List T → List Value → Prop
  | _, _, [], cs => cs = []
  | p, i, t :: l, cs => CR X s (p ++ [i]) t (cs.take t.size) ∧ CRL X s p (i + 1) l (cs.drop t.size)
/-- A row of values, a tree each. -/
def CRT (X : Cx) (s : Nat) : List Nat → Nat → List T → List Value → Prop
  | _, _, [], vs => vs = []
  | p, i, t :: l, vs => (∃ v cs, vs.head? = some v ∧ v = mkv t cs ∧ CR X s (p ++ [i]) t cs) ∧ CRT X s p (i + 1) l vs.tail
end

end Go.Proofs.Ytjkhggbjkkobaaa

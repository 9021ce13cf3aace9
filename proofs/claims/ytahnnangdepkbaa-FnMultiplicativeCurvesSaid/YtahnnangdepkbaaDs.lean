/-
  Sources of numbers: where they stand.
-/
import Derived.Test.YtahnnangdepkbaaTr
import Derived.Test.YtahnnangdepkbaaLa
import Derived.Test.YtahnnangdepkbaaPa
import Derived.Test.YtahnnangdepkbaaPa
namespace Go.Proofs.Ytahnnangdepkbaa
open Go.RowKit
set_option linter.unusedSimpArgs false
set_option linter.unusedVariables false
set_option linter.unusedSectionVars false
set_option maxRecDepth 20000
-- Sources of numbers: where they stand.
/-- What slot t holds (data that nobody writes), told once more. -/
theorem AWP.ghost {C : Ctx} {n : Nat} {Q : Exit → Env → Prop} {env : Env} {c : Code} {t k : Nat} {y : T} (hl : lk env t = some ⟨k, .val y⟩) (h0 : lk env 3000000 = none) (h : AWP C n c Q ((3000000, ⟨0, .val y⟩) :: env)) : AWP C n c Q env := fun C1 hE a w hF => by
  obtain ⟨hd, hn, κ, V, hI, hV⟩ := hF
  obtain ⟨h1, cs, h2, h3⟩ := hI.val _ _ _ hl
  exact h C1 hE a w ⟨hd, hn, κ, _, hI.bind 3000000 0 y (V t) (by rw [h0]; exact Nat.le_refl _) h1 t ⟨cs, h2, h3⟩, fun t ht => by rw [upd_other _ _ _ _ (by omega)]; exact hV t ht⟩
/-- Bytes. -/
def Byt (l : List Int) : Prop := l.length ≤ 1099511627776 ∧ ∀ x ∈ l, 0 ≤ x ∧ x ≤ 255
/-- A place in a row of bytes. -/
def Sok (l : List Int) (s : Int × Int) : Prop := 0 ≤ s.1 ∧ s.1 ≤ (l.length : Int)
def hashN (h : Int) : Int := IntKind.u64.wrap (IntKind.u64.wrap (h * 6364136223846793005) + 1442695040888963407)
def drawX (h : Int) : Int := IntKind.i64.wrap (andI .u64 (shrI .u64 h 33) 16777215)
/-- Where the source stands behind a number drawn. -/
def nextS (l : List Int) (s : Int × Int) (n : Int) : Int × Int := if n < 1 then s else if s.1 < (l.length : Int) then (s.1 + 1, hashN s.2) else (s.1, hashN s.2)
/-- The number drawn. -/
def nextX (l : List Int) (s : Int × Int) (n : Int) : Int := if n < 1 then 0 else (if s.1 < (l.length : Int) then drawX (hashN s.2) + l.getD s.1.toNat 0 else drawX (hashN s.2)).tmod n
theorem srcScalar {a : Option Addr} {n c : Nat} {i j : Int} : ∀ t ∈ [T.str (.raw a n c), .int .i64 i, .int .u64 j], t.scalar = true := by
  intro t ht
  simp only [List.mem_cons, List.not_mem_nil, or_false] at ht
  rcases ht with rfl | rfl | rfl <;> rfl
theorem drawX_bound (h : Int) : 0 ≤ drawX h ∧ drawX h ≤ 16777215 := by
  have key : ∀ b : BitVec 64, 0 ≤ ((b &&& BitVec.ofInt 64 16777215).toNat : Int) ∧ ((b &&& BitVec.ofInt 64 16777215).toNat : Int) ≤ 16777215 := by
    intro b
    refine ⟨by omega, ?_⟩
    rw [BitVec.toNat_and]
    have : (BitVec.ofInt 64 16777215).toNat = 16777215 := by decide
    rw [this]
    have := Nat.and_le_right (n := b.toNat) (m := 16777215)
    omega
  have h1 := key (BitVec.ofInt 64 (shrI .u64 h 33))
  unfold drawX andI
  have e : IntKind.u64.wrap ((BitVec.ofInt IntKind.u64.bits (shrI .u64 h 33) &&& BitVec.ofInt IntKind.u64.bits 16777215).toNat : Int) = ((BitVec.ofInt 64 (shrI .u64 h 33) &&& BitVec.ofInt 64 16777215).toNat : Int) := by
    show IntKind.u64.wrap ((BitVec.ofInt 64 (shrI .u64 h 33) &&& BitVec.ofInt 64 16777215).toNat : Int) = _
    rw [IntKind.wrap_u64]
    omega
  rw [e, wid _ (by omega) (by omega)]
  exact h1
theorem byt_at {l : List Int} (hB : Byt l) (i : Nat) : 0 ≤ l.getD i 0 ∧ l.getD i 0 ≤ 255 := by
  rw [List.getD_eq_getElem?_getD]
  cases h : l[i]? with
  | none => simp
  | some x => simpa using hB.2 x (List.mem_of_getElem? h)
theorem nextX_bound {l : List Int} (hB : Byt l) (s : Int × Int) (n : Int) : 0 ≤ nextX l s n ∧ (1 ≤ n → nextX l s n < n) ∧ (n < 1 → nextX l s n = 0) := by
  unfold nextX
  have h1 := drawX_bound (hashN s.2)
  have h2 := byt_at hB s.1.toNat
  split
  · exact ⟨by omega, fun h => by omega, fun _ => rfl⟩
  · refine ⟨?_, fun _ => ?_, fun h => by omega⟩
    · rw [tm _ _ (by split <;> omega)]; exact (emod_b _ n (by omega)).1
    · rw [tm _ _ (by split <;> omega)]; exact (emod_b _ n (by omega)).2
theorem nextS_ok {l : List Int} {s : Int × Int} (hS : Sok l s) (n : Int) : Sok l (nextS l s n) := by
  obtain ⟨h1, h2⟩ := hS
  unfold nextS
  split
  · exact ⟨h1, h2⟩
  · split
    · exact ⟨by simp only; omega, by simp only; omega⟩
    · exact ⟨h1, h2⟩
end Go.Proofs.Ytahnnangdepkbaa

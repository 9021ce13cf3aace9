/-
  FnArtinHasse: its parts.
-/
import Derived.Test.YtdnaecmcbkfpaaaGreatAx
import Derived.Test.YtdnaecmcbkfpaaaGreatDn
import Derived.Test.YtdnaecmcbkfpaaaGreatHm
import Derived.Test.YtdnaecmcbkfpaaaGreatHn
import Derived.Test.YtdnaecmcbkfpaaaGreatLi
namespace Go.Proofs.YtdnaecmcbkfpaaaGreat
open Go.RowKit
set_option linter.unusedSimpArgs false
set_option linter.unusedVariables false
set_option linter.unusedSectionVars false
set_option maxRecDepth 20000
-- FnArtinHasse: its parts.
/-- What follows is looked at once, from any of some rows of slots. -/
theorem AWP.tailF {C : Ctx} {n : Nat} {Q : Exit → Env → Prop} {env : Env} {c : Code} {J : Type} (k : Nat) (E : J → Env) (p : J → Prop) (h : ∀ j, p j → AWP C n (dropSeq k c) Q (E j)) (h2 : ∀ R, (∀ j, p j → AWP C n R Q (E j)) → AWP C n (putSeq k R c) Q env) : AWP C n c Q env := by
  have h3 := h2 _ h
  rwa [putSeq_drop] at h3
theorem at_get (l : List Int) (i : Nat) : l.getD i 0 = at' l i := rfl
theorem degC_nums {m : Int} {l : List Int} (h : degC m l = 0) : 2 ≤ m ∧ m ≤ 10000 ∧ 1 ≤ l.length ∧ l.length ≤ 10 ∧ ∀ x ∈ l, 0 ≤ x ∧ x < m := by
  have f := degC_zero h
  exact ⟨f.1, f.2.1, f.2.2.2.1, f.2.2.2.2.1, f.2.2.1⟩
theorem bob_one {p : Nat} {m : Int} {l : List Int} (hm : 1 < m) (hp : IsP p) (hpw : powB p m.toNat = true) (hl : l.length ≤ 10) : at' (bobL m (ahL p m l.length) l l.length l.length) 0 = 1 := by
  obtain ⟨a, ha1, hma⟩ := powB_pow hp.b.1 (by omega) hpw
  rw [Int.toNat_of_nonneg (by omega)] at hma
  obtain ⟨e, E, hA⟩ := AH.some hp a
  have he := eqm_ahL hA hp hma (Nat.le_refl a) hl
  have hf := bobL_facts hm (ahL p m l.length) l l.length l.length
  have g1 := eqm_bobL (l := l) he l.length 0 (by omega)
  have g2 := at_bound hf.2 (by omega) 0
  rw [oE_zero hA.e0, Int.emod_eq_of_lt g2.1 g2.2, Int.emod_eq_of_lt (by omega) hm] at g1
  exact g1
theorem big_of {m : Int} {l : List Int} {d : Nat} (h1 : 2 ≤ m) (h2 : m ≤ 10000) (h3 : l.length = d + 1) (h4 : 1 ≤ d) (h5 : d ≤ 10) (h6 : ∀ x ∈ l, 0 ≤ x ∧ x < m) (h7 : at' l 0 = 1) : isBig m l = true := by
  rw [isBig, ser_of h1 h2 h3 h4 h5 h6, show l.getD 0 0 = 1 from h7]; rfl
theorem bob_code {p m : Int} {l : List Int} (hc : bobC p m l = 0) : blkC p m (bobL m (ahL p.toNat m l.length) l l.length l.length) = 0 := by
  have f := bobC_zero hc
  have f2 := degC_nums f.2.1
  have hp := typB_of f.1
  have ho := bobL_facts (m := m) (by omega) (ahL p.toNat m l.length) l l.length l.length
  rw [blkC, if_pos (big_of f2.1 f2.2.1 ho.1 f2.2.2.1 f2.2.2.2.1 ho.2 (bob_one (by omega) hp.1 f.2.2 f2.2.2.2.1)), if_pos f.1, pwC, if_pos f.2.2]
theorem wob_code {p m n : Int} {l : List Int} (h : wobC p m l n = 0) : blkC p m l = 0 := by
  have f := wobC_zero h
  rw [blkC, if_pos f.1, if_pos f.2.1, pwC, if_pos f.2.2.2.2]
theorem wob_of {p m n : Int} {l : List Int} (h1 : isBig m l = true) (h2 : typB p = true) (h3 : 1 ≤ n ∧ n ≤ (l.length : Int) - 1) (h4 : n % p ≠ 0) (h5 : powB p.toNat m.toNat = true) : wobC p m l n = 0 := by
  rw [wobC, if_pos h1, if_pos ⟨h2, h3, h4⟩, pwC, if_pos h5]
theorem two_of {m : Int} {a b : List Int} (h1 : isBig m a = true) (h2 : isBig m b = true) (h : b.length = a.length) : twoB m a m b = 0 := by
  simp [twoB, h1, h2, alikeB, h]
theorem big_at {m : Int} {l : List Int} (h : isBig m l = true) : at' l 0 = 1 := by
  simp only [isBig, Bool.and_eq_true, beq_iff_eq] at h
  exact h.2
theorem one_cons {l : List Int} {m : Int} (hm : 1 < m) (h : ∀ x ∈ l, 0 ≤ x ∧ x < m) : ∀ x ∈ (1 :: l), 0 ≤ x ∧ x < m := fun x hx => by
  rcases List.mem_cons.1 hx with e | e
  · omega
  · exact h x e
theorem times_at0 {m : Int} {a b : List Int} {d : Nat} (hm : 1 < m) (ha : at' a 0 = 1) (hb : at' b 0 = 1) : at' (timesL m a b d) 0 = 1 := by
  rw [timesL, at_tab (by omega)]
  simp only [cv, sm, Nat.sub_zero, ha, hb]
  exact Int.emod_eq_of_lt (by omega) (by omega)
theorem wbL_pos {b : List Int} {p d k : Nat} (h : k ≤ d) : 1 ≤ (wbL b p d 4 k).length := by
  rw [wbL, if_pos h]; simp
end Go.Proofs.YtdnaecmcbkfpaaaGreat

/-
  Plain laws: adding a point and its opposite. No program.
-/
import Derived.Test.YtmnkklkolngfoaaOc
namespace Go.Proofs.Ytmnkklkolngfoaa
open Go.RowKit
set_option linter.unusedSimpArgs false
set_option linter.unusedVariables false
set_option linter.unusedSectionVars false
set_option maxRecDepth 20000
-- Plain laws: adding a point and its opposite. No program.
theorem id_b1 (s t w x u : Int) : (t * t - w - u) - x = (t - s) * (t - -s) + -1 * (w - (s * s - x - u)) := by grind
theorem id_b2 (s t w w2 x y z : Int) : (t * (w - w2) - z) - y = (w - w2) * (t - -s) + s * (w2 - x) + -1 * (z - (s * (x - w) - y)) := by grind
theorem back1 {p s t w x u : Int} (ht : eqp p t (-s)) (hw : eqp p w (s * s - x - u)) : eqp p (t * t - w - u) x := by
  unfold eqp at *
  rw [id_b1 s t w x u]
  exact dvd2 _ _ ht hw
theorem back2 {p s t w w2 x y z : Int} (ht : eqp p t (-s)) (hw2 : eqp p w2 x) (hz : eqp p z (s * (x - w) - y)) : eqp p (t * (w - w2) - z) y := by
  unfold eqp at *
  rw [id_b2 s t w w2 x y z]
  exact dvd3 _ _ _ ht hw2 hz
theorem cancel {p d s t : Int} (h : fieldB p = true) (hd : ¬ eqp p d 0) (g : eqp p (t * d) (-(s * d))) : eqp p t (-s) := by
  have : eqp p (t - -s) 0 := by
    apply no_zero h hd
    have e : d * (t - -s) - 0 = t * d - -(s * d) := by grind
    unfold eqp at *
    rwa [e]
  unfold eqp at *
  rwa [Int.sub_zero] at this
/-- The opposite of a point. -/
def negE (p : Int) (l : List Int) : List Int := if l.length = 0 then [] else [at' l 0, -at' l 1 % p]
theorem neg_sum (p v : Int) : (v + -v % p) % p = 0 := by
  rw [Int.add_emod, Int.emod_emod, ← Int.add_emod, Int.add_right_neg, Int.zero_emod]
theorem id_n1 (s z v v' w u t : Int) : t * (w - u) - -(s * (w - u)) = 1 * (t * (w - u) - (z - v')) + 1 * (z - (s * (u - w) - v)) + -1 * (v' - -v) := by grind
theorem id_n2 (s z v u t a : Int) : t * (2 * v) - -(s * (2 * v)) = -1 * (t * (2 * z) - (3 * u * u + a)) + (2 * t) * (z - -v) + 1 * (s * (2 * v) - (3 * u * u + a)) := by grind
theorem addE_opp {p a x y u v : Int} (h : x = u ∧ (y + v) % p = 0) : addE p a [x, y] [u, v] = [] := by
  unfold addE
  simp only [at', List.getD_cons_zero, List.getD_cons_succ, List.length_cons, List.length_nil]
  rw [if_neg (by omega), if_neg (by omega), if_pos h]
theorem id_neg (y v : Int) : y - -v = 1 * (y + v - 0) := by grind
theorem disc_zero {p a b u v : Int} (hv : eqp p v 0) (gP : OnE p a b u v) (h3 : eqp p (3 * u * u + a) 0) : disc p a b = 0 := by
  have h1 : eqp p (u * u * u + a * u + b) 0 := by
    have e : (u * u * u + a * u + b) - 0 = -1 * (v * v - (u * u * u + a * u + b)) + v * (v - 0) := by grind
    unfold OnE eqp at *
    rw [e]
    exact dvd2 _ _ gP hv
  unfold disc
  apply Int.emod_eq_zero_of_dvd
  rw [id_disc a b u]
  unfold eqp at h1 h3
  rw [Int.sub_zero] at h1 h3
  exact dvd2 _ _ h3 h1
/-- Adding a point and then its opposite changes nothing. -/
theorem add_back {p a b : Int} {f s : List Int} (h : fieldB p = true) (hd : disc p a b ≠ 0) (hf : hasB p a b f = true) (hs : hasB p a b s = true) :
    addE p a (addE p a f s) (negE p s) = f := by
  have hp := fieldB_facts h
  have hp0 : 0 < p := by omega
  rcases hasB_cases hs with rfl | ⟨u, v, rfl⟩
  · rcases hasB_cases hf with rfl | ⟨x, y, rfl⟩
    · simp [addE, negE]
    · simp [addE, negE]
  have hn : negE p [u, v] = [u, -v % p] := by simp [negE, at']
  rw [hn]
  have hv' := emod_b (-v) p hp0
  have hm := eqp_mod p (-v)
  rcases hasB_cases hf with rfl | ⟨x, y, rfl⟩
  · have : addE p a [] [u, v] = [u, v] := by simp [addE]
    rw [this]
    exact addE_opp ⟨rfl, neg_sum p v⟩
  obtain ⟨gx, gy, gX⟩ := (hasB_two hp0).1 hf
  obtain ⟨gu, gv, gP⟩ := (hasB_two hp0).1 hs
  by_cases hc : x = u ∧ (y + v) % p = 0
  · rw [addE_opp hc]
    have : addE p a [] [u, -v % p] = [u, -v % p] := by simp [addE]
    rw [this, hc.1]
    congr 2
    apply eqp_eq hv'.1 hv'.2 gy.1 gy.2
    have h1 : eqp p (y + v) 0 := eqp_iff.2 (by rw [hc.2]; simp)
    refine eqp_trans hm (eqp_symm ?_)
    unfold eqp at *
    rw [id_neg y v]
    exact dvd1 _ h1
  obtain ⟨w0, z0, he, hw0, hz0⟩ := addE_two (p := p) (a := a) hc
  have hon := hasB_add h hf hs
  rw [he] at hon ⊢
  obtain ⟨gw, gz, gR⟩ := (hasB_two hp0).1 hon
  have hw : eqp p (w0 % p) (slopeE p a x y u v * slopeE p a x y u v - x - u) := by rw [hw0]; exact eqp_mod p _
  have hz : eqp p (z0 % p) (slopeE p a x y u v * (x - w0 % p) - y) := by
    have := eqp_mod p z0
    rwa [hz0] at this ⊢
  -- the same third point, seen from the second point; and its slope there
  have hz2 : eqp p (z0 % p) (slopeE p a x y u v * (u - w0 % p) - v) ∧ (w0 % p = u → eqp p (slopeE p a x y u v * (2 * v)) (3 * u * u + a) ∧ ¬ eqp p v 0) := by
    by_cases hx : x = u
    · subst hx
      have hne : (y + v) % p ≠ 0 := fun e => hc ⟨rfl, e⟩
      have hyv := same_x h gX gP gy.1 gy.2 gv.1 gv.2 hne
      subst hyv
      have h2 : ¬ eqp p (2 * y) 0 := y_two h (fun e => hne (by have := eqp_iff.1 e; simpa using this))
      refine ⟨hz, fun _ => ⟨slope_tang h h2, fun e => h2 ?_⟩⟩
      have e2 : 2 * y - 0 = 2 * (y - 0) := by omega
      unfold eqp at *
      rw [e2]
      exact dvd1 _ e
    · have hsl := slope_chord (a := a) (y := y) (v := v) h gx.1 gx.2 gu.1 gu.2 hx
      generalize slopeE p a x y u v = t at hsl hw hz
      have hsl' : eqp p (t * (u - x)) (v - y) := by
        have e : t * (u - x) - (v - y) = -1 * (t * (x - u) - (y - v)) := by grind
        unfold eqp at *
        rw [e]
        exact dvd1 _ hsl
      refine ⟨chord_z hsl' hz, fun hwu => ?_⟩
      have h1 := chord_slope h gP gX (sub_ne gu.1 gu.2 gx.1 gx.2 (Ne.symm hx)) hsl'
      have h2 : eqp p (t * (2 * v)) (3 * u * u + a) := by
        have hw' : eqp p u (t * t - x - u) := by rw [hwu] at hw; exact hw
        unfold eqp at *
        rw [id_2ys a x u v y t]
        exact dvd3 _ _ _ h1 hsl' hw'
      refine ⟨h2, fun e => hd (disc_zero e gP ?_)⟩
      refine eqp_trans (eqp_symm h2) ?_
      have e2 : t * (2 * v) - 0 = (2 * t) * (v - 0) := by grind
      unfold eqp at *
      rw [e2]
      exact dvd1 _ e
  generalize slopeE p a x y u v = t at hw hz hz2
  generalize w0 % p = w at *
  generalize z0 % p = z at *
  obtain ⟨hz2, hk⟩ := hz2
  have fin : ¬(w = u ∧ (z + -v % p) % p = 0) ∧ eqp p (slopeE p a w z u (-v % p)) (-t) := by
    by_cases hwu : w = u
    · obtain ⟨h1, h2⟩ := hk hwu
      subst hwu
      have hzv : eqp p z (-v) := by
        have e : t * (w - w) - v = -v := by grind
        rwa [e] at hz2
      have h3 : ¬ eqp p (2 * v) 0 := by
        intro g
        refine h2 (no_zero h (x := 2) ?_ g)
        intro g2
        have := eqp_iff.1 g2
        rw [Int.emod_eq_of_lt (by omega) (by omega)] at this
        simp at this
      have h4 : ¬ eqp p (2 * z) 0 := by
        intro g
        apply h3
        have e : 2 * v - 0 = -1 * (2 * z - 0) + 2 * (z - -v) := by grind
        unfold eqp at *
        rw [e]
        exact dvd2 _ _ g hzv
      refine ⟨fun g => h4 ?_, cancel h h3 ?_⟩
      · have h5 : eqp p (z + -v % p) 0 := eqp_iff.2 (by rw [g.2]; simp)
        have e : 2 * z - 0 = 1 * (z + -v % p - 0) + 1 * (z - -v) + -1 * (-v % p - -v) := by grind
        unfold eqp at *
        rw [e]
        exact dvd3 _ _ _ h5 hzv hm
      · have h5 := slope_tang (a := a) (x := w) (v := -v % p) h h4
        unfold eqp at *
        rw [id_n2 t z v w _ a]
        exact dvd3 _ _ _ h5 hzv h1
    · refine ⟨fun g => hwu g.1, cancel h (sub_ne gw.1 gw.2 gu.1 gu.2 hwu) ?_⟩
      have h5 := slope_chord (a := a) (y := z) (v := -v % p) h gw.1 gw.2 gu.1 gu.2 hwu
      unfold eqp at *
      rw [id_n1 t z v (-v % p) w u _]
      exact dvd3 _ _ _ h5 hz2 hm
  obtain ⟨hno, hsl⟩ := fin
  obtain ⟨w1, z1, he1, hw1, hz1⟩ := addE_two (p := p) (a := a) hno
  rw [he1]
  have a1 := back1 hsl hw
  have b1 : eqp p (w1 % p) x := eqp_trans (eqp_mod p w1) (by rw [hw1]; exact a1)
  have c1 := emod_b w1 p hp0
  have d1 : w1 % p = x := eqp_eq c1.1 c1.2 gx.1 gx.2 b1
  have b2 : eqp p (z1 % p) y := eqp_trans (eqp_mod p z1) (by rw [hz1]; exact back2 hsl b1 hz)
  have c2 := emod_b z1 p hp0
  have d2 : z1 % p = y := eqp_eq c2.1 c2.2 gy.1 gy.2 b2
  rw [d1, d2]
end Go.Proofs.Ytmnkklkolngfoaa

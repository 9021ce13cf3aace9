import Derived.Test.YtapdekacpecgiaaGreatBk
import Derived.Test.YtapdekacpecgiaaGreatBi
import Derived.Test.YtapdekacpecgiaaGreatVz
namespace Go.Proofs.YtapdekacpecgiaaGreat
open Go.RowKit
set_option linter.unusedSimpArgs false
set_option linter.unusedVariables false
set_option linter.unusedSectionVars false
set_option maxRecDepth 20000
set_option maxHeartbeats 1000000
theorem AWP.tailC {C : Ctx} {n : Nat} {Q : Exit → Env → Prop} {env : Env} {c : Code} {J : Type} (k : Nat) (E : J → Env) (p : J → Prop) (h : ∀ j, p j → AWP C n (dropSeq k c) Q (E j)) (h2 : ∀ R, (∀ j, p j → AWP C n R Q (E j)) → AWP C n (putSeq k R c) Q env) : AWP C n c Q env := by
 have h3 := h2 _ h
 rwa [Is] at h3
theorem Shp.nine {t : List (List Int)} (h : Shp t) : t.length ≤ 1000 ∧ ∀ i, (t.getD i []).length ≤ 1000 := ⟨h.1, fun i => by
 by_cases hi : i < t.length
 ·exact (h.row hi).1
 ·rw [List.getD_eq_getElem?_getD, List.getElem?_eq_none (by omega)]; exact Nat.zero_le _⟩
def LdJ (m : Int) (w : List Int) (pm : Int) (pt : List (List Int)) (k : Int) : Prop := 1 < m ∧ w.length ≤ 11 ∧ 2 ≤ w.length ∧ ((ldC m w = 0 ∧ pm = m ∧ pt = lcT m (igL m w) ∧ k = 0) ∨ (ldC m w ≠ 0 ∧ pt = [] ∧ k = ldC m w))
set_option maxHeartbeats 32000000 in
theorem I4 (a : Option Addr) (c : Nat) (l : List Int) (hlen : l.length ≤ 9223372036854775807) (hx : ∀ x ∈ l, 0 ≤ x ∧ x ≤ 255) : AFn Tryz.prog 5 [.str (.src a c l)] (.bool true) := by
 refine fO Tryz.func5 Tryz.ntmps5 (by rw [Tryz.results5]) fun C hP hM hC => ?_
 by_cases hbig : (4096 : Int) < (l.length : Int)
 ·have hb := Oi a c l
  rw [decide_eq_true hbig] at hb
  (repeat (first | ((with_reducible refine rC rfl fun K hK => ?_); simp only [go_sem, seval, ↓reduceIte, hbig]; (first | refine hK _ _ _ ?_ | refine ⟨_, hb, hK _ _ _ ?_⟩); clear hK K) | (with_reducible first | refine rN ?_ | refine sQ ?_ | refine tY hC hP ?_ | refine aY hC hM hP ?_ | refine kQ ?_ | refine lQ ?_ | refine eQ ?_ | refine bQ ?_ | refine cTa ?_ | refine cFa ?_) | simp only [qS, Nat.reduceEqDiff, ↓reduceIte]))
  refine rt1 ?_
  rfl
 have hb := Oi a c l
 rw [decide_eq_false hbig] at hb
 have hB : Byt l := ⟨by omega, hx⟩
 refine AWP.tailR 6 [(0, ⟨0, .val (.str (.src a c l))⟩)] ?_ (fun R tail => ?_)
 ·simp only [dropSeq]
  clear hb hbig hlen hx
  refine AWP.tailC (J := Int × List Int × Int × List (List Int) × Int) 3 (fun j => [(0, ⟨0, .val (.str (.src a c l))⟩), (12, ⟨2, .val (.fptr (.agg [.int .i64 j.1, .sl false 2 (intL j.2.1)]))⟩), (13, ⟨2, .val (.fptr (.agg [.int .i64 j.2.2.1, .sl false 27 (rowsF j.2.2.2.1)]))⟩), (14, ⟨0, .val (.int .i64 j.2.2.2.2)⟩)]) (fun j => LdJ j.1 j.2.1 j.2.2.1 j.2.2.2.1 j.2.2.2.2) (fun j hj => ?_) (fun R tail => ?_)
  ·simp only [dropSeq]
   obtain ⟨m2, w, pm, pt, k2⟩ := j
   simp only at hj ⊢
   refine AWP.tailR 3 [(0, ⟨0, .val (.str (.src a c l))⟩), (12, ⟨2, .val (.fptr (.agg [.int .i64 m2, .sl false 2 (intL w)]))⟩), (13, ⟨2, .val (.fptr (.agg [.int .i64 pm, .sl false 27 (rowsF pt)]))⟩), (14, ⟨0, .val (.int .i64 k2)⟩)] ?_ (fun R tail => ?_)
   ·simp only [dropSeq]
    obtain ⟨hm, hw, hw2, ⟨h0, rfl, rfl, rfl⟩ | ⟨h0, rfl, rfl⟩⟩ := hj
    ·obtain ⟨g1, g2, g3, g4⟩ := Pk h0
     have hser := (F2 h0).1
     have hs := (Eo (Fx g1).1).2.2.2.2.shp2 (by omega)
     have hdo : doC pm (lcT pm (igL pm w)) = 0 := by rw [doC, if_pos g1, if_neg (by omega)]
     have b0 := Af (Cs hser) (show 0 < pm by omega) 0
     have cD := Ej pm (lcT pm (igL pm w)) hs.sm hdo
     have cS := Jb pm (at' w 0) (doL pm (lcT pm (igL pm w))) g3 b0
     rw [g4] at cS
     have cL := Dz pm (lcT pm (igL pm w)) hs.sm
     rw [g1] at cL
     have zq1 : ((0 : Int) != 0) = false := rfl; have zq2 : (0 : Int) < (w.length : Int) := (by omega); have zq3 := Aa w 0 (by omega); have zq4 : w.getD 0 0 = at' w 0 := rfl; have zq5 := Hi pm w (by omega)
     (repeat (first | ((with_reducible refine rC rfl fun K hK => ?_); simp only [go_sem, seval, ↓reduceIte, zq1, Int.le_refl, Int.toNat_zero, zq2, zq3, zq4, beq_self_eq_true]; (first | refine hK _ _ _ ?_ | refine ⟨_, cD, hK _ _ _ ?_⟩ | refine ⟨_, cS, hK _ _ _ ?_⟩ | refine ⟨_, cL, hK _ _ _ ?_⟩ | refine ⟨_, zq5, hK _ _ _ ?_⟩); clear hK K) | (with_reducible first | refine rN ?_ | refine sQ ?_ | refine tY hC hP ?_ | refine aY hC hM hP ?_ | refine kQ ?_ | refine lQ ?_ | refine eQ ?_ | refine bQ ?_ | refine cTa ?_ | refine cFa ?_) | simp only [qS, Nat.reduceEqDiff, ↓reduceIte]))
     refine rt1 ?_
     rfl
    ·have zq6 : (ldC m2 w != 0) = true := (by rw [bne_iff_ne]; exact h0); have zq7 : (((0 : Nat) : Int) == 0) = true := rfl
     (repeat (first | ((with_reducible refine rC rfl fun K hK => ?_); simp only [go_sem, seval, ↓reduceIte, zq6, Ac, List.length_nil, zq7]; refine hK _ _ _ ?_; clear hK K) | (with_reducible first | refine rN ?_ | refine sQ ?_ | refine tY hC hP ?_ | refine aY hC hM hP ?_ | refine kQ ?_ | refine lQ ?_ | refine eQ ?_ | refine bQ ?_ | refine cTa ?_ | refine cFa ?_) | simp only [qS, Nat.reduceEqDiff, ↓reduceIte]))
     refine rt1 ?_
     rfl
   ·simp only [putSeq]
    obtain ⟨R0, m, t, hsh, hR, hD⟩ := Ji (a := a) (c := c) hB
    by_cases hc : doC m t = 0
    ·have cI := Ej m t hsh.sm hc
     have cS := Hy m t hsh.sm hc
     have p1 := Hi m (doL m t) (by rw [doL, It]; have := hsh.1; omega)
     rcases hR with ⟨rfl | ⟨k, h, L, k1, k2, k3, k4, rfl⟩, _⟩ | ⟨_, rfl⟩
     ·(repeat (first | ((with_reducible refine rC rfl fun K hK => ?_); simp only [go_sem, seval, ↓reduceIte, bne_self_eq_false]; (first | refine hK _ _ _ ?_ | refine ⟨_, hD, hK _ _ _ ?_⟩ | refine ⟨_, cI, hK _ _ _ ?_⟩ | refine ⟨_, cS, hK _ _ _ ?_⟩ | refine ⟨_, p1, hK _ _ _ ?_⟩); clear hK K) | (with_reducible first | refine rN ?_ | refine sQ ?_ | refine tY hC hP ?_ | refine aY hC hM hP ?_ | refine kQ ?_ | refine lQ ?_ | refine eQ ?_ | refine bQ ?_ | refine cTa ?_ | refine cFa ?_) | simp only [qS, Nat.reduceEqDiff, ↓reduceIte]))
      refine AWP.sub ?_ (by rfl) tail
      simp [Sub, lk]
     ·have hwl : (((rowsO L).take h).drop k).length = t.length := by rw [Xi k1 k2, k4, Jx k1 k2]
      have hwr : ((rowsF L).take h).drop k = rowsF t := by rw [Q5, k4]
      (repeat (first | ((with_reducible refine rC rfl fun K hK => ?_); simp only [go_sem, seval, ↓reduceIte, bne_self_eq_false, hwl, hwr]; (first | refine hK _ _ _ ?_ | refine ⟨_, hD, hK _ _ _ ?_⟩ | refine ⟨_, cI, hK _ _ _ ?_⟩ | refine ⟨_, cS, hK _ _ _ ?_⟩ | refine ⟨_, p1, hK _ _ _ ?_⟩); clear hK K) | (with_reducible first | refine rN ?_ | refine sQ ?_ | refine tY hC hP ?_ | refine aY hC hM hP ?_ | refine kQ ?_ | refine lQ ?_ | refine eQ ?_ | refine bQ ?_ | refine cTa ?_ | refine cFa ?_) | simp only [qS, Nat.reduceEqDiff, ↓reduceIte]))
      refine AWP.sub ?_ (by rfl) tail
      simp [Sub, lk]
     ·exact absurd (Eo (Fx (N4 hc).1).1).2.2.1 (by simp)
    ·have cI := Hx m t hsh.sm hc
     have cS := Hq m t hsh.sm hc
     rcases hR with ⟨rfl | ⟨k, h, L, k1, k2, k3, k4, rfl⟩, _⟩ | ⟨rfl, rfl⟩
     ·have zq8 := Eg 0
      (repeat (first | ((with_reducible refine rC rfl fun K hK => ?_); simp only [go_sem, seval, ↓reduceIte, bne_self_eq_false]; (first | refine hK _ _ _ ?_ | refine ⟨_, hD, hK _ _ _ ?_⟩ | refine ⟨_, cI, hK _ _ _ ?_⟩ | refine ⟨_, cS, hK _ _ _ ?_⟩ | refine ⟨_, zq8, hK _ _ _ ?_⟩); clear hK K) | (with_reducible first | refine rN ?_ | refine sQ ?_ | refine tY hC hP ?_ | refine aY hC hM hP ?_ | refine kQ ?_ | refine lQ ?_ | refine eQ ?_ | refine bQ ?_ | refine cTa ?_ | refine cFa ?_) | simp only [qS, Nat.reduceEqDiff, ↓reduceIte]))
      refine AWP.sub ?_ (by rfl) tail
      simp [Sub, lk]
     ·have hwl : (((rowsO L).take h).drop k).length = t.length := by rw [Xi k1 k2, k4, Jx k1 k2]
      have hwr : ((rowsF L).take h).drop k = rowsF t := by rw [Q5, k4]
      have zq9 := Eg 0
      (repeat (first | ((with_reducible refine rC rfl fun K hK => ?_); simp only [go_sem, seval, ↓reduceIte, bne_self_eq_false, hwl, hwr]; (first | refine hK _ _ _ ?_ | refine ⟨_, hD, hK _ _ _ ?_⟩ | refine ⟨_, cI, hK _ _ _ ?_⟩ | refine ⟨_, cS, hK _ _ _ ?_⟩ | refine ⟨_, zq9, hK _ _ _ ?_⟩); clear hK K) | (with_reducible first | refine rN ?_ | refine sQ ?_ | refine tY hC hP ?_ | refine aY hC hM hP ?_ | refine kQ ?_ | refine lQ ?_ | refine eQ ?_ | refine bQ ?_ | refine cTa ?_ | refine cFa ?_) | simp only [qS, Nat.reduceEqDiff, ↓reduceIte]))
      refine AWP.sub ?_ (by rfl) tail
      simp [Sub, lk]
     ·refine AWP.tailR 1 [(0, ⟨0, .val (.str (.src a c l))⟩), (12, ⟨2, .val (.fptr (.agg [.int .i64 m2, .sl false 2 (intL w)]))⟩), (13, ⟨2, .val (.fptr (.agg [.int .i64 pm, .sl false 27 (rowsF pt)]))⟩), (14, ⟨0, .val (.int .i64 k2)⟩), (17, ⟨2, .own (.box 26 (.agg [.int .i64 m, .nil]))⟩)] ?_ (fun R2 tail2 => ?_)
      ·simp only [dropSeq]
       refine AWP.frz (s := 17) rfl ?_
       simp only [Gd, F9, T.freezeL, F8, In]
       refine AWP.weak (t := 17) rfl (Xs m) rfl rfl ?_
       have zq10 := Eg 0
       (repeat (first | ((with_reducible refine rC rfl fun K hK => ?_); simp only [go_sem, seval, ↓reduceIte, bne_self_eq_false]; (first | refine hK _ _ _ ?_ | refine ⟨_, cI, hK _ _ _ ?_⟩ | refine ⟨_, cS, hK _ _ _ ?_⟩ | refine ⟨_, zq10, hK _ _ _ ?_⟩); clear hK K) | (with_reducible first | refine rN ?_ | refine sQ ?_ | refine tY hC hP ?_ | refine aY hC hM hP ?_ | refine kQ ?_ | refine lQ ?_ | refine eQ ?_ | refine bQ ?_ | refine cTa ?_ | refine cFa ?_) | simp only [qS, Nat.reduceEqDiff, ↓reduceIte]))
       refine AWP.sub ?_ (by rfl) tail
       simp [Sub, lk]
      ·simp only [putSeq]
       (repeat (first | ((with_reducible refine rC rfl fun K hK => ?_); simp only [go_sem, seval, ↓reduceIte]; (first | refine hK _ _ _ ?_ | refine ⟨_, hD, hK _ _ _ ?_⟩); clear hK K) | (with_reducible first | refine rN ?_ | refine sQ ?_ | refine tY hC hP ?_ | refine aY hC hM hP ?_ | refine kQ ?_ | refine lQ ?_ | refine eQ ?_ | refine bQ ?_ | refine cTa ?_ | refine cFa ?_) | simp only [qS, Nat.reduceEqDiff, ↓reduceIte]))
       refine AWP.sub ?_ (by rfl) tail2
       simp [Sub, lk]
  ·simp only [putSeq]
   obtain ⟨m, w, hm, hm2, hw, hw2, hD⟩ := Hw (a := a) (c := c) hB
   by_cases hc : ldC m w = 0
   ·have cI := Gi m w hc
    have cS := Gs m w hc
    have hs := (Eo (Fx (Pk hc).1).1).2.2.2.2.shp2 (by rw [(Pk hc).2.1]; omega)
    have p1 := Kq m (lcT m (igL m w)) hs.nine
    (repeat (first | ((with_reducible refine rC rfl fun K hK => ?_); simp only [go_sem, seval, ↓reduceIte, bne_self_eq_false]; (first | refine hK _ _ _ ?_ | refine ⟨_, hD, hK _ _ _ ?_⟩ | refine ⟨_, cI, hK _ _ _ ?_⟩ | refine ⟨_, cS, hK _ _ _ ?_⟩ | refine ⟨_, p1, hK _ _ _ ?_⟩); clear hK K) | (with_reducible first | refine rN ?_ | refine sQ ?_ | refine tY hC hP ?_ | refine aY hC hM hP ?_ | refine kQ ?_ | refine lQ ?_ | refine eQ ?_ | refine bQ ?_ | refine cTa ?_ | refine cFa ?_) | simp only [qS, Nat.reduceEqDiff, ↓reduceIte]))
    refine AWP.frz (s := 12) rfl ?_
    refine AWP.frz (s := 13) rfl ?_
    simp only [Gd, F9, T.freezeL, F8, Ik, E3, Fh]
    refine AWP.sub ?_ (by rfl) (tail (m, w, m, lcT m (igL m w), 0) ⟨hm, hw2, hw, .inl ⟨hc, rfl, rfl, rfl⟩⟩)
    simp [Sub, lk]
   ·have cI := Gn m w (by omega) hc
    have cS := Gt m w (by omega) hc
    have zq11 := Gy 0
    (repeat (first | ((with_reducible refine rC rfl fun K hK => ?_); simp only [go_sem, seval, ↓reduceIte, bne_self_eq_false]; (first | refine hK _ _ _ ?_ | refine ⟨_, hD, hK _ _ _ ?_⟩ | refine ⟨_, cI, hK _ _ _ ?_⟩ | refine ⟨_, cS, hK _ _ _ ?_⟩ | refine ⟨_, zq11, hK _ _ _ ?_⟩); clear hK K) | (with_reducible first | refine rN ?_ | refine sQ ?_ | refine tY hC hP ?_ | refine aY hC hM hP ?_ | refine kQ ?_ | refine lQ ?_ | refine eQ ?_ | refine bQ ?_ | refine cTa ?_ | refine cFa ?_) | simp only [qS, Nat.reduceEqDiff, ↓reduceIte]))
    refine AWP.frz (s := 12) rfl ?_
    refine AWP.frz (s := 13) rfl ?_
    simp only [Gd, F9, T.freezeL, F8, Ik, E3, In]
    refine AWP.weak (t := 13) rfl (Xs 0) rfl rfl ?_
    refine AWP.sub ?_ (by rfl) (tail (m, w, 0, [], ldC m w) ⟨hm, hw2, hw, .inr ⟨hc, rfl, rfl⟩⟩)
    simp [Sub, lk, rowsF]
 ·simp only [putSeq]
  obtain ⟨m, w, hm, hm2, hw, hw2, hD⟩ := Mu (a := a) (c := c) hB
  by_cases hc : crdC m w = 0
  ·have hcr := Ajh hc
   obtain ⟨h1, h2, h3⟩ := Ia hc
   have cI := Jn m w hc
   have cS := Jt m w hc
   have hlaw : lawB m (lcT m w) = true := Uo hcr (by omega) (by omega)
   have hl : (lcT m w).length = w.length := by
    have := (I5 (show 0 < m by omega) w (w.length - 1) (pc (suT m w (w.length - 1)))).len
    rw [show (lcT m w).length = w.length - 1 + 1 from this]; omega
   have hs := (Eo (Fx hlaw).1).2.2.2.2.shp2 (by omega)
   have p1 := Kq m (lcT m w) hs.nine
   have cA := Jd m (w.length - 1) hm (by omega) (by omega) (by omega)
   have hla := Ah4 (m := m) (d := w.length - 1) hm (by omega) (by omega) (by omega)
   have cH := Hk m (lcT m w) (adT m (w.length - 1)) w hlaw hla h1 hl (by rw [(Tq (show 0 < m by omega) (w.length - 1)).len]; omega) h2
   have hh := Aih hcr
   rw [show w.length - 1 + 1 = w.length by omega] at hh
   rw [show hmB m w.length (pc (lcT m w)) (pc (adT m (w.length - 1))) w = true from hh] at cH
   have cL := Dz m (lcT m w) hs.sm
   rw [hlaw] at cL
   have zq12 : IntKind.i64.wrap ((w.length : Int) - 1) = ((w.length - 1 : Nat) : Int) := (by rw [wid _ (by omega) (by omega)]; omega)
   (repeat (first | ((with_reducible refine rC rfl fun K hK => ?_); simp only [go_sem, seval, ↓reduceIte, bne_self_eq_false, hbig, beq_self_eq_true, zq12]; (first | refine hK _ _ _ ?_ | refine ⟨_, hb, hK _ _ _ ?_⟩ | refine ⟨_, hD, hK _ _ _ ?_⟩ | refine ⟨_, cI, hK _ _ _ ?_⟩ | refine ⟨_, cS, hK _ _ _ ?_⟩ | refine ⟨_, p1, hK _ _ _ ?_⟩ | refine ⟨_, cA, hK _ _ _ ?_⟩ | refine ⟨_, cH, hK _ _ _ ?_⟩ | refine ⟨_, cL, hK _ _ _ ?_⟩); clear hK K) | (with_reducible first | refine rN ?_ | refine sQ ?_ | refine tY hC hP ?_ | refine aY hC hM hP ?_ | refine kQ ?_ | refine lQ ?_ | refine eQ ?_ | refine bQ ?_ | refine cTa ?_ | refine cFa ?_) | simp only [qS, Nat.reduceEqDiff, ↓reduceIte]))
   refine AWP.sub ?_ (by rfl) tail
   simp [Sub, lk]
  ·have cI := J5 m w (by omega) hc
   have cS := J6 m w (by omega) hc
   have zq13 : (crdC m w == 0) = false := (by rw [beq_eq_false_iff_ne]; exact hc); have zq14 := Gy 0
   (repeat (first | ((with_reducible refine rC rfl fun K hK => ?_); simp only [go_sem, seval, ↓reduceIte, bne_self_eq_false, hbig, zq13]; (first | refine hK _ _ _ ?_ | refine ⟨_, hb, hK _ _ _ ?_⟩ | refine ⟨_, hD, hK _ _ _ ?_⟩ | refine ⟨_, cI, hK _ _ _ ?_⟩ | refine ⟨_, cS, hK _ _ _ ?_⟩ | refine ⟨_, zq14, hK _ _ _ ?_⟩); clear hK K) | (with_reducible first | refine rN ?_ | refine sQ ?_ | refine tY hC hP ?_ | refine aY hC hM hP ?_ | refine kQ ?_ | refine lQ ?_ | refine eQ ?_ | refine bQ ?_ | refine cTa ?_ | refine cFa ?_) | simp only [qS, Nat.reduceEqDiff, ↓reduceIte]))
   refine AWP.sub ?_ (by rfl) tail
   simp [Sub, lk]
end Go.Proofs.YtapdekacpecgiaaGreat

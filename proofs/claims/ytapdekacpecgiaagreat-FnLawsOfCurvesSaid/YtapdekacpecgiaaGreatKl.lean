import Derived.Test.YtapdekacpecgiaaGreatKk
import Derived.Test.YtapdekacpecgiaaGreatFin
import Derived.WalkKit
import Derived.ProofKit
namespace Go.Proofs.YtapdekacpecgiaaGreat
open Go.RowKit
set_option linter.unusedSimpArgs false
set_option linter.unusedVariables false
set_option linter.unusedSectionVars false
set_option maxRecDepth 20000
set_option maxHeartbeats 1000000
theorem Y5 {f : FuncId} (hf : f < 1000000) {args : List T} {vs : List Value} {W : World} {r : T} (h : AFn Tryz.prog f args r) (hl : vs.length = args.length)
  (hC : ∀ (j : Nat) (t : T) (v : Value), args[j]? = some t → vs[j]? = some v → t.refFree = true ∧ VR (argCx Tryz.prog W (fun _ => none)) j t v) :
  Calls Tryz.prog f vs.toArray W (fun e w' => ∃ v κ', e = .returned v ∧ VR (resCx Tryz.prog w' κ') 0 r v ∧ Below W.heap.size W w') := by
 refine (((Gj hf).1 h).2 W vs (fun _ => none) (fun _ _ _ _ h => by cases h) (fun _ _ _ _ _ _ h => by cases h) hl hC).mono fun e w' ⟨v, κ', he, hB⟩ => ?_
 exact ⟨v, κ', he, hB.res, hB.os, hB.tape, hB.output, hB.size, fun k hk => hB.kept k hk rfl⟩
def PlV (W : World) (m : Int) (ll : List (List Int)) (sv : Value) : Prop := VR (argCx Tryz.prog W (fun _ => none)) 0 (.agg [.int .i64 m, .sl false 27 (rowsF ll)]) (.agg #[.int .i64 m, sv])
theorem PlV.call {W : World} {m : Int} {ll : List (List Int)} {sv : Value} (h : PlV W m ll sv) {f : FuncId} (hf : f < 1000000) {r : T} (hA : AFn Tryz.prog f [.agg [.int .i64 m, .sl false 27 (rowsF ll)]] r) :
  Calls Tryz.prog f #[.agg #[.int .i64 m, sv]] W (fun e w' => ∃ v κ', e = .returned v ∧ VR (resCx Tryz.prog w' κ') 0 r v ∧ Below W.heap.size W w') :=
 Y5 hf (vs := [.agg #[.int .i64 m, sv]]) hA rfl (fun j t v hj hv => by
  match j, hj, hv with
  | 0, hj, hv =>
   simp only [List.getElem?_cons_zero, Option.some.injEq] at hj hv
   subst hj; subst hv
   exact ⟨by simp [T.refFree, T.refFreeL, Gx], h⟩
  | _ + 1, hj, hv => simp at hj)
theorem PlV.below {W W' : World} {m : Int} {ll : List (List Int)} {sv : Value} (h : PlV W m ll sv) (hb : Below W.heap.size W W') : PlV W' m ll sv := by
 obtain ⟨cs, h1, h2⟩ := h
 exact ⟨cs, h1, A7 (argCx Tryz.prog W (fun _ => none)) (argCx Tryz.prog W' (fun _ => none)) 0 0 rfl (fun b hx => ⟨⟨Nat.lt_of_lt_of_le hx.1 hb.size, rfl⟩, hb.block b hx.1⟩) _ [] [] cs (by simp [T.pure, T.pureL, Cn]) h2⟩
theorem G1 (w : World) (a b : Value) (e : TypeId) : (w.alloc (.cells #[a, b] e)).cell? ⟨w.heap.size, 0, none⟩ = some a ∧ (w.alloc (.cells #[a, b] e)).cell? ⟨w.heap.size, 1, none⟩ = some b := by
 have h : (w.alloc (.cells #[a, b] e)).heap[w.heap.size]? = some (.cells #[a, b] e) := by unfold World.alloc; simp
 constructor <;> (simp only [World.cell?, h]; rfl)
set_option maxRecDepth 100000 in
set_option maxHeartbeats 2000000 in
theorem Afg (m : Int) (ll : List (List Int)) (hs : Sm ll) (sv : Value) (w : World) (hv : PlV w m ll sv) : Calls Tryz.prog 36 #[.agg #[.int .i64 m, sv]] w fun e w' => e = .returned (.bool (lawB m ll)) ∧ Below w.heap.size w w' := by
 have hq1 : ∀ w : World, (binOp .eql 27 (.slice none 0 0) (.slice none 0 0)).run Tryz.prog w = .ok (.bool true) w := fun w => by kernel_rfl
 have hq2 : ∀ (w : World) (b l c : Nat), (binOp .eql 27 (.slice (some ⟨b, 0, none⟩) l c) (.slice none 0 0)).run Tryz.prog w = .ok (.bool false) w := fun w b l c => by kernel_rfl
 have hb1 : ∀ o, Below w.heap.size w (w.alloc o) := fun o => (Below.refl _ _).alloc (Nat.le_refl _) _
 cases hp : isPl m ll with
 | false =>
  rw [T5 hp]
  go_enter Tryz.func36, Tryz.ntmps36
  go_wp2_with (first
   | (go_at_call 89; refine ((hv.below (hb1 _)).call (by decide) (Fu m ll hs)).mono ?_; rw [hp]; rintro e w' ⟨v, κ', rfl, ⟨cs, rfl, hcs⟩, hb⟩; simp only [CR] at hcs; subst hcs; simp only [mkv, List.headD_cons])
   | go_in)
  go_ret
  exact ⟨rfl, (hb1 _).trans (hb.mono (by simp))⟩
 | true =>
  have hz := Eo hp
  obtain ⟨r, hr, hn⟩ := Tw m ll.length (pc ll)
  have hF := Rk m ll ll.length r (by omega) (by omega) hz.2.2.2.2 (by omega) (by omega) hr
  by_cases hl : IsLw m ll.length (pc ll)
  ·have e := hr.none hl
   subst e
   rw [J8 hp hl]
   go_enter Tryz.func36, Tryz.ntmps36
   go_wp2_with (first
    | (go_at_call 89; refine ((hv.below (hb1 _)).call (by decide) (Fu m ll hs)).mono ?_; rw [hp]; rintro e w' ⟨v, κ', rfl, ⟨cs, rfl, hcs⟩, hb⟩; simp only [CR] at hcs; subst hcs; simp only [mkv, List.headD_cons]; have hc0 := (hb.cell (p := ⟨w.heap.size, 0, none⟩) (by simp)).trans (G1 w (.int .i64 m) sv 26).1; have hc1 := (hb.cell (p := ⟨w.heap.size, 1, none⟩) (by simp)).trans (G1 w (.int .i64 m) sv 26).2)
    | (go_at_call 118; refine (((hv.below (hb1 _)).below hb).call (by decide) hF).mono ?_; rintro e w2 ⟨v2, κ2, rfl, ⟨cs2, rfl, hcs2⟩, hb2⟩; simp only [CR] at hcs2; subst hcs2; simp only [mkv, List.headD_cons])
    | go_in)
   go_ret
   exact ⟨rfl, ((hb1 _).trans (hb.mono (by simp))).trans (hb2.mono (Nat.le_trans (by simp) hb.size))⟩
  ·obtain ⟨x, l, e⟩ := hn hl
   subst e
   rw [Sb hl]
   go_enter Tryz.func36, Tryz.ntmps36
   go_wp2_with (first
    | (go_at_call 89; refine ((hv.below (hb1 _)).call (by decide) (Fu m ll hs)).mono ?_; rw [hp]; rintro e w' ⟨v, κ', rfl, ⟨cs, rfl, hcs⟩, hb⟩; simp only [CR] at hcs; subst hcs; simp only [mkv, List.headD_cons]; have hc0 := (hb.cell (p := ⟨w.heap.size, 0, none⟩) (by simp)).trans (G1 w (.int .i64 m) sv 26).1; have hc1 := (hb.cell (p := ⟨w.heap.size, 1, none⟩) (by simp)).trans (G1 w (.int .i64 m) sv 26).2)
    | (go_at_call 118; refine (((hv.below (hb1 _)).below hb).call (by decide) hF).mono ?_; rintro e w2 ⟨v2, κ2, rfl, ⟨cs2, rfl, hcs2⟩, hb2⟩; simp only [CR] at hcs2; obtain ⟨bb, cap, cur, hcs3, _⟩ := hcs2; subst hcs3; simp only [mkv, List.headD_cons])
    | go_in)
   go_ret
   exact ⟨rfl, ((hb1 _).trans (hb.mono (by simp))).trans (hb2.mono (Nat.le_trans (by simp) hb.size))⟩
theorem Dz (m : Int) (ll : List (List Int)) (hs : Sm ll) : AFn Tryz.prog 36 [.agg [.int .i64 m, .sl false 27 (rowsF ll)]] (.bool (lawB m ll)) := by
 refine (Gj (by decide)).2 ⟨⟨_, Tryz.func36, by rfl, by rfl⟩, fun w vs κ hcol hinj hlen hC => ?_⟩
 obtain ⟨v, rfl⟩ : ∃ v, vs = [v] := by
  match vs, hlen with
  | [v], _ => exact ⟨v, rfl⟩
 obtain ⟨cs, e1, e2⟩ := (hC 0 _ _ rfl rfl).2
 have e3 := A7 (argCx Tryz.prog w κ) (argCx Tryz.prog w (fun _ => none)) 0 0 rfl (fun b hx => ⟨⟨hx.1, rfl⟩, rfl⟩) _ [] [] cs (by simp [T.pure, T.pureL, Cn]) e2
 have hlen := Bc _ _ _ _ _ e2
 simp only [CR, CRL, T.size] at e2
 obtain ⟨q1, q2, q3⟩ := e2
 match cs, hlen, q1, e1, e3 with
 | [c0, c1], _, q1, e1, e3 =>
  simp only [List.take_succ_cons, List.take_zero, List.cons.injEq, and_true] at q1
  subst q1
  simp only [mkv] at e1
  subst e1
  refine (Afg m ll hs c1 w ⟨_, rfl, e3⟩).mono fun e w' ⟨he, hb⟩ => ⟨_, fun _ => none, he, ⟨hb.os, hb.tape, hb.output, hb.size, fun b hlt _ => hb.block b hlt, fun _ _ _ _ h => (by cases h), fun _ _ _ _ _ _ h => (by cases h), rfl, ?_⟩⟩
  exact ⟨[.bool (lawB m ll)], rfl, by simp only [CR]⟩
 | [], hlen, _, _, _ => simp [T.size, T.sizeL] at hlen
 | [_], hlen, _, _, _ => simp [T.size, T.sizeL] at hlen
 | _ :: _ :: _ :: _, hlen, _, _, _ => simp [T.size, T.sizeL] at hlen
end Go.Proofs.YtapdekacpecgiaaGreat

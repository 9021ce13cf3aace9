/-
  The generic part, sixteenth text: stores; literals; lengths; slice expressions.
-/
import Derived.Test.YtjkhggbjkkobaaaMetaO
namespace Go.Proofs.Ytjkhggbjkkobaaa
open Go.RowKit

section
variable {C : Ctx} {env : Env} {V : Nat → Value} {w : World} {κ : Kap} {a : Act} {AF : FuncId → List T → T → Prop} {U : List (Nat × Slot)} {R : List Nat} {n : Nat}
variable {tt : Tt} {P : Program}

theorem run_storeAt (hP : TtOk P tt) {t : TypeId} {it : Ty} (ht : tyAt tt t = some it) {b off : Nat} {cur : Array Value} {e : TypeId} (hb : w.heap[b]? = some (.cells cur e (0, 0))) (x : T) (cs : List Value)
    (hl : cs.length = it.size) (hc : (mkv x cs).cells = cs.toArray) (h1 : ∀ v ∈ cs, v.oneCell' = true) (hle : off + cs.length ≤ cur.size) :
    (Instr.storeAt t (.pointer (some ⟨b, off, none⟩)) (mkv x cs)).run P w = .ok () (w.setRow b (splice cur.toList off cs).toArray) := by
  have hst := run_storeCells_at P b off e cs 0 cur w hb (by simpa using hle) h1
  simp only [Nat.add_zero] at hst
  simp only [Instr.storeAt, Instr.sureAddr, Sem.run_bind, Sem.run_pure, Result.andThen_ok, storeVar, run_sizeOf hP ht, hc]
  have : ¬ (cs.toArray.size ≠ it.size) := by simp [hl]
  simp only [this, if_false, hst]
  rfl

theorem op_store (hP : TtOk C.P tt) (hF : FR C n env a w) {t : TypeId} {it : Ty} (hit : tyAt tt t = some it) {x y : Operand} {i : Nat} {o : Oper} (ho : o.op = .store t x y) (hdst : o.dst = none) (hok : opOk n o = true)
    (h : (rdv x fun
      | .addr s k p off sub => rdv y fun v => take (virt i) v fun v' ups => rdn s k p fun T0 n => match n.part sub with
        | some t0 => .need (off = n.offN sub ∧ t0.size = it.size ∧ v'.size = t0.size ∧ v'.isAgg = t0.isAgg ∧ v'.solid = true) <| match ups with
          | [] => .done [(s, ⟨if v'.scalar && t0.scalar then k else k + 1, .own (T.set v' (p ++ sub) T0)⟩)]
          | (u, _) :: _ => if u = s ∨ s = virt i then .fail else .rd (virt i) fun sv => .done ((s, ⟨k + 1, .own (T.set v' (p ++ sub) T0)⟩) :: (virt i, ⟨verOf sv + 1, .val .any⟩) :: ups)
        | none => .fail
      | _ => .fail).sat AF env U R) {Q : Exit → Act → World → Prop} :
    o.wp C.P a w (fun a' w' => FR C n (U ++ env) a' w') Q := by
  obtain ⟨hd, hn, κ, V, hI, hV⟩ := hF
  obtain ⟨v, R', h1, hv⟩ := rdv_sat hI hV (opnd_ok hok (by simp [ho, Op.operands])) h
  cases v <;> try (simp [Rd.sat] at h1; done)
  rename_i s k p off sub
  obtain ⟨u, R'', h2, hu⟩ := rdv_sat hI hV (opnd_ok hok (by simp [ho, Op.operands])) h1
  obtain ⟨s0, hc⟩ := hv.addr_cells
  rcases take_sat hI hu h2 with ⟨hpu, hru, h3⟩ | ⟨s', k', p', T0', nd', v', R3, hne', hs', hg', hnd', hrf', hag', hsz', h3, κ', hI', hkeep⟩
  · obtain ⟨T0, nd, R4, hs, hg, hnd, h4⟩ := rdn_sat h3
    cases hp : nd.part sub with
    | none => simp [hp, Rd.sat] at h4
    | some t0 =>
      simp only [hp, Rd.sat] at h4
      obtain ⟨⟨c1, c2, c3, c4, c5⟩, rfl, _⟩ := h4
      obtain ⟨b, cap, cur, e1, e2, e3, e4⟩ := hI.addr_eq hs hg hnd hc
      simp at e1
      obtain ⟨su, cu, f1, f2⟩ := hu.cells
      have hlen := CR_len _ _ _ _ _ f2
      have f2' : CR (cx C env w κ) su [] u cu := f2
      obtain ⟨b2, cap2, cur2, g1, g2, g3, κ2, hI2⟩ := hI.storeVal (k' := if u.scalar && t0.scalar then k else k + 1) hs hg hnd hp f2' hpu hru c3 c4 (by
        by_cases hsc : u.scalar = true
        · by_cases hsc2 : t0.scalar = true
          · exact .inr ⟨by simp [hsc, hsc2], hsc⟩
          · exact .inl (by simp [hsc2])
        · exact .inl (by simp [hsc]))
      have hb : b2 = b := hI.inj b2 b s p _ _ g1 e4
      subst hb
      have hcur : cur2 = cur := by rw [e3] at g2; simp at g2; exact g2.symm
      subst hcur
      have h1c := oneCell_of_solid u [] cu c5 hru f2
      refine wp_skip' (w' := w.setRow b2 (splice cur2.toList (nd.offN sub) cu).toArray) ?_ ?_
      · simp only [execOp, ho, e1, f1, Sem.run_bind, c1]
        rw [run_storeAt hP hit e3 u cu (by omega) (mkv_cells hlen h1c) h1c g3]
        rfl
      · rw [hdst]
        exact ⟨hd, hn, κ2, V, hI2, hV⟩
  · obtain ⟨T0, nd, R4, hs, hg, hnd, h4⟩ := rdn_sat h3
    cases hp : nd.part sub with
    | none => simp [hp, Rd.sat] at h4
    | some t0 =>
      simp only [hp, Rd.sat] at h4
      obtain ⟨⟨c1, c2, c3, c4, c5⟩, h5⟩ := h4
      split at h5
      · simp [Rd.sat] at h5
      · rename_i hss0
        simp only [Rd.sat] at h5
        obtain ⟨R5, ⟨rfl, _⟩, _⟩ := h5
        have hsv : s ≠ virt i := fun e => hss0 (.inr e)
        have hss : s' ≠ s := fun e => hss0 (.inl e)
        obtain ⟨b, cap, cur, e1, e2, e3, e4⟩ := hI.addr_eq hs hg hnd hc
        simp at e1
        have hs2 : lk ((virt i, (⟨verOf (lk env (virt i)) + 1, .own v'⟩ : Slot)) :: (s', ⟨k', .own (T.set .any p' T0')⟩) :: env) s = some ⟨k, .own T0⟩ := by
          rw [lk_other _ _ _ _ hsv, lk_other _ _ _ _ (fun e => hss e.symm)]; exact hs
        obtain ⟨b2, cap2, cur2, cs1, g1, g2, g3, g4, g5, κ2, hI2⟩ := hI'.storeOwn hs2 hg hnd hp (lk_same _ _ _) hsv c3 c4
        have hlen := CR_len _ _ _ _ _ g5
        have h1c := oneCell_of_solid v' [] cs1 c5 hrf' g5
        rw [upd_same] at g4
        -- the block is the one that the pointer leads into: the handle is good in the new state too
        have hb : b2 = b ∧ cur2 = cur := by
          have g6 := hkeep b s p _ hsv (fun e => hss e.symm) e4
          have hb := hI'.inj b2 b s p _ _ g1 g6
          subst hb
          refine ⟨rfl, ?_⟩
          rw [e3] at g2; simp at g2; exact g2.symm
        obtain ⟨rfl, rfl⟩ := hb
        refine wp_skip' (w' := w.setRow b2 (splice cur2.toList (nd.offN sub) cs1).toArray) ?_ ?_
        · simp only [execOp, ho, e1, g4, Sem.run_bind, c1]
          rw [run_storeAt hP hit e3 v' cs1 (by omega) (mkv_cells hlen h1c) h1c g3]
          rfl
        · rw [hdst]
          refine FR.congr (env := (s, ⟨k + 1, .own (T.set v' (p ++ sub) T0)⟩) :: kill [virt i] ((virt i, ⟨verOf (lk env (virt i)) + 1, .own v'⟩) :: (s', ⟨k', .own (T.set .any p' T0')⟩) :: env)) (fun t => ?_)
            ⟨hd, hn, κ2, _, hI2, fun t ht => by rw [upd_other _ _ _ _ (by simp [virt]; omega)]; exact hV t ht⟩
          simp only [kill, List.map_cons, List.map_nil, List.cons_append, List.nil_append, lk, if_true, verOf]
          by_cases q1 : s = t
          · simp [q1]
          · simp only [q1, if_false]
            by_cases q2 : virt i = t
            · simp [q2]
            · simp [q2]

theorem op_len (hP : TtOk C.P tt) (hF : FR C n env a w) {t : TypeId} {sz by_ : Nat} {z : T} {e : TypeId} (hit : tyAt tt t = some ⟨sz, by_, z, .slice e⟩) {x : Operand} {o : Oper} {ty : Array TypeId}
    (ho : o.op = .call { callee := .builtin .len, args := #[x], argTypes := ty }) (hty : ty[0]? = some t) (hok : opOk n o = true)
    (h : (rdv x fun v => elems v fun l => fin o.dst (.int .i64 l.length)).sat AF env U R) {Q : Exit → Act → World → Prop} :
    o.wp C.P a w (fun a' w' => FR C n (U ++ env) a' w') Q := by
  obtain ⟨hd, hn, κ, V, hI, hV⟩ := hF
  obtain ⟨v, R', h1, hv⟩ := rdv_sat hI hV (opnd_ok hok (by simp [ho, Op.operands, Call.operands])) h
  obtain ⟨l, R'', ad, cap, hu, h2⟩ := elems_len hI hv h1
  refine wp_value (v := .int .i64 l.length) (w' := w) ?_ (fin_FR hd hn hI hV (dst_lt hok) (HV.mk_int _ _ _) h2)
  simp [execOp, ho, Go.resolve, invoke, builtin, Builtin.len_, hty, hu, run_underlying (under_slice hP hit), goInt]

theorem op_max (hF : FR C n env a w) {x y : Operand} {o : Oper} {ty : Array TypeId} (ho : o.op = .call { callee := .builtin .max, args := #[x, y], argTypes := ty }) (hok : opOk n o = true)
    (h : (rdv x fun v => rdv y fun u => match v, u with
    | .int k a, .int _ b => fin o.dst (.int k (if b > a then b else a))
    | _, _ => .fail).sat AF env U R) {Q : Exit → Act → World → Prop} :
    o.wp C.P a w (fun a' w' => FR C n (U ++ env) a' w') Q := by
  obtain ⟨hd, hn, κ, V, hI, hV⟩ := hF
  obtain ⟨v, R', h1, hv⟩ := rdv_sat hI hV (opnd_ok hok (by simp [ho, Op.operands, Call.operands])) h
  obtain ⟨u, R'', h2, hu⟩ := rdv_sat hI hV (opnd_ok hok (by simp [ho, Op.operands, Call.operands])) h1
  cases v <;> try (simp [Rd.sat] at h2; done)
  cases u <;> try (simp [Rd.sat] at h2; done)
  have hx := hv.int
  have hy := hu.int
  refine wp_value (w' := w) ?_ (fin_FR hd hn hI hV (dst_lt hok) (HV.mk_int _ _ _) h2)
  simp [execOp, ho, Go.resolve, invoke, builtin, Builtin.max_, hx, hy, Builtin.max2]

theorem op_min (hF : FR C n env a w) {x y : Operand} {o : Oper} {ty : Array TypeId} (ho : o.op = .call { callee := .builtin .min, args := #[x, y], argTypes := ty }) (hok : opOk n o = true)
    (h : (rdv x fun v => rdv y fun u => match v, u with
    | .int k a, .int _ b => fin o.dst (.int k (if b < a then b else a))
    | _, _ => .fail).sat AF env U R) {Q : Exit → Act → World → Prop} :
    o.wp C.P a w (fun a' w' => FR C n (U ++ env) a' w') Q := by
  obtain ⟨hd, hn, κ, V, hI, hV⟩ := hF
  obtain ⟨v, R', h1, hv⟩ := rdv_sat hI hV (opnd_ok hok (by simp [ho, Op.operands, Call.operands])) h
  obtain ⟨u, R'', h2, hu⟩ := rdv_sat hI hV (opnd_ok hok (by simp [ho, Op.operands, Call.operands])) h1
  cases v <;> try (simp [Rd.sat] at h2; done)
  cases u <;> try (simp [Rd.sat] at h2; done)
  have hx := hv.int
  have hy := hu.int
  refine wp_value (w' := w) ?_ (fin_FR hd hn hI hV (dst_lt hok) (HV.mk_int _ _ _) h2)
  simp [execOp, ho, Go.resolve, invoke, builtin, Builtin.min_, hx, hy, Builtin.min2]

end

end Go.Proofs.Ytjkhggbjkkobaaa

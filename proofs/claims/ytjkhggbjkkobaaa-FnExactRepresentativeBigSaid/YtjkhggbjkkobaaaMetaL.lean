/-
  The generic part, twelfth text: more operations that only read.
-/
import Derived.Test.YtjkhggbjkkobaaaMetaK
namespace Go.Proofs.Ytjkhggbjkkobaaa
open Go.RowKit

section
variable {C : Ctx} {env : Env} {V : Nat → Value} {w : World} {κ : Kap} {a : Act} {AF : FuncId → List T → T → Prop} {U : List (Nat × Slot)} {R : List Nat} {n : Nat}
variable {tt : Tt} {P : Program}

theorem mkv_cons {t : T} (h : t.isAgg = false) (c : Value) (l : List Value) : mkv t ((c :: l).take 1) = c := by
  cases t <;> simp_all [mkv, T.isAgg]

theorem intRd_sat {v : T} {c : Int → Rd} (h : (intRd v c).sat AF env U R) : ∃ k m, v = .int k m ∧ (c m).sat AF env U R := by
  cases v <;> try (simp [intRd, Rd.sat] at h; done)
  rename_i k m
  exact ⟨k, m, rfl, h⟩

theorem under_slice (hP : TtOk P tt) {t : TypeId} {sz by_ : Nat} {z : T} {e : TypeId} (h : tyAt tt t = some ⟨sz, by_, z, .slice e⟩) : P.underlying t = some (.slice e) := (hP t _ h).2.2.2.1

theorem under_int (hP : TtOk P tt) {t : TypeId} {sz by_ : Nat} {z : T} {k : IntKind} (h : tyAt tt t = some ⟨sz, by_, z, .int k⟩) : P.underlying t = some (.int k) := (hP t _ h).2.2.2.1

theorem op_field (hP : TtOk C.P tt) (hF : FR C n env a w) {t : TypeId} {sz by_ : Nat} {z : T} {fs : List (TypeId × Nat × Nat)} (hit : tyAt tt t = some ⟨sz, by_, z, .struct fs⟩) {x : Operand} {f : Nat}
    {tf : TypeId} {offf szf : Nat} (hf : fs[f]? = some (tf, offf, szf)) {itf : Ty} (hitf : tyAt tt tf = some itf) {o : Oper} (ho : o.op = .field t x f) (hok : opOk n o = true)
    (h : (rdv x fun
          | .agg l => match l[f]? with
            | some t0 => .need (T.sizeL (l.take f) = offf ∧ t0.size = szf ∧ t0.isAgg = itf.zero.isAgg) (fin o.dst t0)
            | none => .fail
          | _ => .fail).sat AF env U R) {Q : Exit → Act → World → Prop} :
    o.wp C.P a w (fun a' w' => FR C n (U ++ env) a' w') Q := by
  obtain ⟨hd, hn, κ, V, hI, hV⟩ := hF
  obtain ⟨fields, hu, hfs, _⟩ := under_struct hP hit
  obtain ⟨fd, g1, g2, g3, g4⟩ := fields_at hfs hf
  simp only at g2 g3 g4
  obtain ⟨v, R', h1, hv⟩ := rdv_sat hI hV (opnd_ok hok (by simp [ho, Op.operands])) h
  cases v <;> try (simp [Rd.sat] at h1; done)
  rename_i l
  cases hl : l[f]? with
  | none => simp [hl, Rd.sat] at h1
  | some t0 =>
    simp only [hl, Rd.sat] at h1
    obtain ⟨⟨ho1, ho2, ho3⟩, h3⟩ := h1
    have hno := hv.1
    obtain ⟨s0, cs, e1, e2⟩ := hv.cells
    simp only [CR] at e2
    have h4 := CRL_at l f 0 cs t0 hl e2
    have h5 := sizeL_take_le l f t0 hl
    have h6 := CRL_len _ _ _ _ _ _ e2
    simp only [T.noOwn] at hno
    have hno0 := (noOwnL_iff l).1 hno t0 (List.mem_of_getElem? hl)
    refine wp_value (v := mkv t0 ((cs.drop (T.sizeL (l.take f))).take t0.size)) (w' := w) ?_ (fin_FR hd hn hI hV (dst_lt hok) (HV.of_CR hno0 h4) h3)
    simp only [mkv] at e1
    have hsz : itf.size = szf := by rw [← sz_of hP hitf, ← g2, g4]
    have hpart : (part fd.type cs.toArray fd.offset).run C.P w = .ok (mkv t0 ((cs.drop (T.sizeL (l.take f))).take t0.size)) w := by
      rw [g2]
      simp only [part, Sem.run_bind, run_isAgg hP hitf, Result.andThen_ok]
      cases hag : itf.zero.isAgg with
      | true =>
        rw [hag] at ho3
        simp only [if_true, Sem.run_bind, run_sizeOf hP hitf, Result.andThen_ok, Sem.run_pure]
        cases t0 <;> simp [T.isAgg] at ho3
        simp only [mkv]
        congr 2
        rw [g3, ho1, hsz, ho2]
        simp [List.extract_toArray]
      | false =>
        rw [hag] at ho3
        have h1 := size_of_not_agg ho3
        simp only [Bool.false_eq_true, if_false]
        have hlt : T.sizeL (l.take f) < cs.length := by omega
        have hx : cs.toArray[fd.offset]? = some cs[T.sizeL (l.take f)] := by
          rw [g3, ← ho1]; simp [hlt]
        simp only [hx, Sem.run_pure]
        have hm : mkv t0 ((cs.drop (T.sizeL (l.take f))).take t0.size) = cs[T.sizeL (l.take f)] := by
          rw [h1, List.drop_eq_getElem_cons hlt]
          exact mkv_cons ho3 _ _
        rw [hm]
    simp only [execOp, ho, e1, Sem.run_bind, Instr.field, run_underlying hu, Result.andThen_ok, g1, asAgg, Sem.run_pure, hpart]

theorem op_indexAddr (hP : TtOk C.P tt) (hF : FR C n env a w) {t : TypeId} {sz by_ : Nat} {z : T} {e : TypeId} (hit : tyAt tt t = some ⟨sz, by_, z, .slice e⟩) {ie : Ty} (hie : tyAt tt e = some ie)
    {x y : Operand} {o : Oper} (ho : o.op = .indexAddr t x y) (hok : opOk n o = true)
    (h : (rdv x fun v => rdv y fun u => intRd u fun n => match v with
        | .ref s k p => rdn s k p fun _ nd => match nd with
          | .sl true e' l => .need (e' = e ∧ 0 ≤ n ∧ n < l.length) (fin o.dst (.addr s k p (n.toNat * ie.size) [n.toNat]))
          | _ => .fail
        | .sl false e' l => .need (e' = e ∧ 0 ≤ n ∧ n < l.length) (fin o.dst (.fptr (l.getD n.toNat .any)))
        | _ => .fail).sat AF env U R) {Q : Exit → Act → World → Prop} :
    o.wp C.P a w (fun a' w' => FR C n (U ++ env) a' w') Q := by
  obtain ⟨hd, hn, κ, V, hI, hV⟩ := hF
  have hu := under_slice hP hit
  obtain ⟨v, R', h1, hv⟩ := rdv_sat hI hV (opnd_ok hok (by simp [ho, Op.operands])) h
  obtain ⟨u, R'', h2, hu2⟩ := rdv_sat hI hV (opnd_ok hok (by simp [ho, Op.operands])) h1
  obtain ⟨k0, m, rfl, h3⟩ := intRd_sat h2
  have hy := hu2.int
  have hrun : ∀ (b off len cap : Nat), 0 ≤ m → m < len → (Instr.indexAt t (.slice (some ⟨b, off, none⟩) len cap) (.int k0 m)).run C.P w = .ok (.pointer (some ⟨b, off + m.toNat * ie.size, none⟩)) w := by
    intro b off len cap hm0 hm1
    simp only [Instr.indexAt, asIntOf, Sem.run_bind, Sem.run_pure, Result.andThen_ok, run_underlying hu]
    rw [if_pos ⟨hm0, hm1⟩]
    simp only [Sem.run_bind, run_sizeOf hP hie, Result.andThen_ok, Sem.run_pure, addr_add]
  cases v <;> try (simp [Rd.sat] at h3; done)
  case ref s k p =>
    obtain ⟨T0, nd, R3, hs, hg, hnn, h4⟩ := rdn_sat h3
    cases nd <;> try (simp [T.isNode] at hnn; done)
    case box => simp [Rd.sat] at h4
    case sl o' e' l =>
      cases o' with
      | false => simp [T.isNode] at hnn
      | true =>
        simp only [Rd.sat] at h4
        obtain ⟨⟨rfl, hm0, hm1⟩, h5⟩ := h4
        obtain ⟨s0, hc⟩ := hv.ref_cells
        obtain ⟨b, cap, cur, e1, e2, e3, e4⟩ := hI.ref_eq hs hg hnn hc
        simp only [headOf, List.cons.injEq, and_true] at e1
        refine wp_value (v := .pointer (some ⟨b, 0 + m.toNat * ie.size, none⟩)) (w' := w) ?_ (fin_FR hd hn hI hV (dst_lt hok) ⟨rfl, 0, [.pointer (some ⟨b, 0 + m.toNat * ie.size, none⟩)], rfl, ?_⟩ h5)
        · simp only [execOp, ho, e1, hy, Sem.run_bind, hrun b 0 l.length cap hm0 hm1, Result.andThen_ok, Sem.run_pure]
        · simp only [CR, Nat.zero_add]
          exact ⟨_, rfl, ⟨_, hs, Nat.le_refl _⟩, fun _ => ⟨b, _, e4, rfl⟩⟩
  case sl o' e' l =>
    cases o' with
    | true => simp [Rd.sat] at h3
    | false =>
      simp only [Rd.sat] at h3
      obtain ⟨⟨rfl, hm0, hm1⟩, h5⟩ := h3
      obtain ⟨s0, cs, e1, e2⟩ := hv.cells
      simp only [CR] at e2
      obtain ⟨ad, cap, rfl, g1, g2, g3, g4, g5⟩ := e2
      have hlt : m.toNat < l.length := by omega
      obtain ⟨b, off, rfl, hFb, cur, e'', fz, hb, hle, hC⟩ := g5 (by intro h; subst h; simp at hlt)
      simp only [mkv, List.headD] at e1
      have hsz : (cx C env w κ).sz e' = ie.size := sz_of hP hie
      rw [hsz] at hle hC g3
      have hl : l[m.toNat]? = some (l.getD m.toNat .any) := by simp [List.getD, hlt]
      have hall := g3 (l.getD m.toNat .any) (List.mem_of_getElem? hl)
      have h6 := CRL_at l m.toNat 0 _ _ hl hC
      have htk : T.sizeL (l.take m.toNat) = m.toNat * ie.size := by
        rw [sizeL_of_all (n := ie.size) (fun t ht => g3 t (List.mem_of_mem_take ht)), List.length_take, Nat.min_eq_left (by omega)]
      have hpos : m.toNat * ie.size + ie.size ≤ l.length * ie.size := by
        have := Nat.mul_le_mul_right ie.size (show m.toNat + 1 ≤ l.length by omega)
        rwa [Nat.add_mul, Nat.one_mul] at this
      have hp0 : (l.getD m.toNat .any).pure = true := (pureL_iff l).1 g4 _ (List.mem_of_getElem? hl)
      refine wp_value (v := .pointer (some ⟨b, off + m.toNat * ie.size, none⟩)) (w' := w) ?_ (fin_FR hd hn hI hV (dst_lt hok) ⟨rfl, 0, [.pointer (some ⟨b, off + m.toNat * ie.size, none⟩)], rfl, ?_⟩ h5)
      · simp only [execOp, ho, e1, hy, Sem.run_bind, hrun b off l.length cap hm0 hm1, Result.andThen_ok, Sem.run_pure]
      · simp only [CR]
        refine ⟨b, off + m.toNat * ie.size, cur, e'', fz, rfl, hFb, hb, by omega, hp0, ?_⟩
        rw [htk, List.drop_take, List.drop_drop, List.take_take, show min (l.getD m.toNat T.any).size (l.length * ie.size - m.toNat * ie.size) = (l.getD m.toNat T.any).size by omega] at h6
        exact CR_pure _ (cx C env w κ) s0 0 rfl (fun _ h => ⟨h, rfl⟩) _ _ [] _ hp0 h6

theorem op_binOp (hP : TtOk C.P tt) (hF : FR C n env a w) {op : BinOp} {t t' : TypeId} {x y : Operand} {o : Oper} (ho : o.op = .binOp op t x y t') (hok : opOk n o = true)
    (h : (rdv x fun v => rdv y fun u => binRd (isBoolTy tt t) op v u (fin o.dst)).sat AF env U R) {Q : Exit → Act → World → Prop} :
    o.wp C.P a w (fun a' w' => FR C n (U ++ env) a' w') Q := by
  obtain ⟨hd, hn, κ, V, hI, hV⟩ := hF
  obtain ⟨v, R', h1, hv⟩ := rdv_sat hI hV (opnd_ok hok (by simp [ho, Op.operands])) h
  obtain ⟨u, R'', h2, hu⟩ := rdv_sat hI hV (opnd_ok hok (by simp [ho, Op.operands])) h1
  cases v <;> try (simp [binRd, Rd.sat] at h2; done)
  all_goals (cases u <;> try (simp [binRd, Rd.sat] at h2; done))
  case bool.bool b b' =>
    simp only [binRd] at h2
    split at h2
    · rename_i hB
      have hu' : C.P.underlying t = some .bool := by
        unfold isBoolTy at hB
        split at hB
        · rename_i hit
          exact (hP _ _ hit).2.2.2.1
        · cases hB
      have hx := hv.bool
      have hy := hu.bool
      have hg : (eqGuard op t x y (.bool b) (.bool b')).run C.P w = .ok () w := by
        unfold eqGuard
        cases op <;> simp
      have hq : (Op.equal t (.bool b) (.bool b')).run C.P w = .ok (b == b') w := by
        have key : ∀ d, (Op.equalIn (d + 1) t (.bool b) (.bool b')).run C.P w = .ok (b == b') w := fun d => by
          simp [Op.equalIn, run_underlying hu']
        exact key 9999
      cases op <;> simp only [Rd.sat] at h2 <;> try (exact h2.elim)
      case eql => exact wp_value (w' := w) (by simp only [execOp, ho, hx, hy, Sem.run_bind, hg, Result.andThen_ok, binOp, hq, Sem.run_pure]) (fin_FR hd hn hI hV (dst_lt hok) (HV.mk_bool _ _) h2)
      case neq => exact wp_value (w' := w) (by simp only [execOp, ho, hx, hy, Sem.run_bind, hg, Result.andThen_ok, binOp, hq, Sem.run_pure]) (fin_FR hd hn hI hV (dst_lt hok) (HV.mk_bool _ _) h2)
    · simp [Rd.sat] at h2
  rename_i k m k' m'
  simp only [binRd] at h2
  split at h2
  · rename_i e
    subst e
    have hx := hv.int
    have hy := hu.int
    have hg : (eqGuard op t x y (.int k m) (.int k m')).run C.P w = .ok () w := by
      unfold eqGuard
      cases op <;> simp
    cases op <;> simp only [wrapInt, Rd.sat] at h2 <;> try (exact h2.elim)
    case add => exact wp_value (w' := w) (by simp only [execOp, ho, hx, hy, Sem.run_bind, hg, Result.andThen_ok]; simp [binOp, Op.intArith]) (fin_FR hd hn hI hV (dst_lt hok) (HV.mk_int _ _ _) h2)
    case sub => exact wp_value (w' := w) (by simp only [execOp, ho, hx, hy, Sem.run_bind, hg, Result.andThen_ok]; simp [binOp, Op.intArith]) (fin_FR hd hn hI hV (dst_lt hok) (HV.mk_int _ _ _) h2)
    case mul => exact wp_value (w' := w) (by simp only [execOp, ho, hx, hy, Sem.run_bind, hg, Result.andThen_ok]; simp [binOp, Op.intArith]) (fin_FR hd hn hI hV (dst_lt hok) (HV.mk_int _ _ _) h2)
    case quo => exact wp_value (w' := w) (by simp only [execOp, ho, hx, hy, Sem.run_bind, hg, Result.andThen_ok]; simp [binOp, Op.intDiv, h2.1]) (fin_FR hd hn hI hV (dst_lt hok) (HV.mk_int _ _ _) h2.2)
    case rem => exact wp_value (w' := w) (by simp only [execOp, ho, hx, hy, Sem.run_bind, hg, Result.andThen_ok]; simp [binOp, Op.intDiv, h2.1]) (fin_FR hd hn hI hV (dst_lt hok) (HV.mk_int _ _ _) h2.2)
    case eql => exact wp_value (w' := w) (by simp only [execOp, ho, hx, hy, Sem.run_bind, hg, Result.andThen_ok]; simp only [binOp, Op.intCmp, ne_eq, not_true, if_false, Sem.run_pure, Result.andThen_ok]) (fin_FR hd hn hI hV (dst_lt hok) (HV.mk_bool _ _) h2)
    case neq => exact wp_value (w' := w) (by simp only [execOp, ho, hx, hy, Sem.run_bind, hg, Result.andThen_ok]; simp only [binOp, Op.intCmp, ne_eq, not_true, if_false, Sem.run_pure, Result.andThen_ok]) (fin_FR hd hn hI hV (dst_lt hok) (HV.mk_bool _ _) h2)
    case lss => exact wp_value (w' := w) (by simp only [execOp, ho, hx, hy, Sem.run_bind, hg, Result.andThen_ok]; simp only [binOp, Op.intCmp, ne_eq, not_true, if_false, Sem.run_pure, Result.andThen_ok]) (fin_FR hd hn hI hV (dst_lt hok) (HV.mk_bool _ _) h2)
    case leq => exact wp_value (w' := w) (by simp only [execOp, ho, hx, hy, Sem.run_bind, hg, Result.andThen_ok]; simp only [binOp, Op.intCmp, ne_eq, not_true, if_false, Sem.run_pure, Result.andThen_ok]) (fin_FR hd hn hI hV (dst_lt hok) (HV.mk_bool _ _) h2)
    case gtr => exact wp_value (w' := w) (by simp only [execOp, ho, hx, hy, Sem.run_bind, hg, Result.andThen_ok]; simp only [binOp, Op.intCmp, ne_eq, not_true, if_false, Sem.run_pure, Result.andThen_ok]) (fin_FR hd hn hI hV (dst_lt hok) (HV.mk_bool _ _) h2)
    case geq => exact wp_value (w' := w) (by simp only [execOp, ho, hx, hy, Sem.run_bind, hg, Result.andThen_ok]; simp only [binOp, Op.intCmp, ne_eq, not_true, if_false, Sem.run_pure, Result.andThen_ok]) (fin_FR hd hn hI hV (dst_lt hok) (HV.mk_bool _ _) h2)
  · simp [Rd.sat] at h2

theorem op_unOp (hF : FR C n env a w) {op : UnOp} {t : TypeId} {x : Operand} {o : Oper} (ho : o.op = .unOp op t x) (hok : opOk n o = true)
    (h : (rdv x fun v => unRd op v (fin o.dst)).sat AF env U R) {Q : Exit → Act → World → Prop} :
    o.wp C.P a w (fun a' w' => FR C n (U ++ env) a' w') Q := by
  obtain ⟨hd, hn, κ, V, hI, hV⟩ := hF
  obtain ⟨v, R', h1, hv⟩ := rdv_sat hI hV (opnd_ok hok (by simp [ho, Op.operands])) h
  cases op <;> cases v <;> try (simp [unRd, Rd.sat] at h1; done)
  case neg.int k m =>
    have hx := hv.int
    simp only [unRd] at h1
    exact wp_value (w' := w) (by simp only [execOp, ho, hx, Sem.run_bind, Op.unary, Op.intArith, Sem.run_pure, Result.andThen_ok]) (fin_FR hd hn hI hV (dst_lt hok) (HV.mk_int _ _ _) h1)
  case not.bool b =>
    have hx := hv.bool
    simp only [unRd] at h1
    exact wp_value (w' := w) (by simp only [execOp, ho, hx, Sem.run_bind, Op.unary, Sem.run_pure, Result.andThen_ok]) (fin_FR hd hn hI hV (dst_lt hok) (HV.mk_bool _ _) h1)

theorem op_convert (hP : TtOk C.P tt) (hF : FR C n env a w) {s t : TypeId} {sz by_ : Nat} {z : T} {k : IntKind} (hit : tyAt tt t = some ⟨sz, by_, z, .int k⟩) (hsrc : C.P.underlying s ≠ none)
    {x : Operand} {o : Oper} (ho : o.op = .convert s t x) (hok : opOk n o = true)
    (h : (rdv x fun v => intRd v fun n => fin o.dst (.int k (k.wrap n))).sat AF env U R) {Q : Exit → Act → World → Prop} :
    o.wp C.P a w (fun a' w' => FR C n (U ++ env) a' w') Q := by
  obtain ⟨hd, hn, κ, V, hI, hV⟩ := hF
  have hu := under_int hP hit
  obtain ⟨v, R', h1, hv⟩ := rdv_sat hI hV (opnd_ok hok (by simp [ho, Op.operands])) h
  obtain ⟨k0, m, rfl, h3⟩ := intRd_sat h1
  have hx := hv.int
  cases hs : C.P.underlying s with
  | none => exact absurd hs hsrc
  | some ds =>
    refine wp_value (v := .int k (k.wrap m)) (w' := w) ?_ (fin_FR hd hn hI hV (dst_lt hok) (HV.mk_int _ _ _) h3)
    simp only [execOp, ho, hx, Sem.run_bind, convert, run_underlying hs, run_underlying hu, Result.andThen_ok]
    cases ds <;> simp [Conv.intToInt]

theorem CRT_at {X : Cx} {s : Nat} {p : List Nat} : ∀ (l : List T) (i j : Nat) (vs : List Value) (t : T), l[i]? = some t → CRT X s p j l vs → ∃ cs, vs[i]? = some (mkv t cs) ∧ CR X s (p ++ [j + i]) t cs
  | [], i, j, vs, t, hi, h => by simp at hi
  | x :: l, 0, j, vs, t, hi, h => by
    simp at hi; subst hi
    simp only [CRT] at h
    obtain ⟨⟨v, cs, h1, h2, h3⟩, _⟩ := h
    refine ⟨cs, ?_, by simpa using h3⟩
    rw [← h2, ← h1]; cases vs <;> simp
  | x :: l, i + 1, j, vs, t, hi, h => by
    simp at hi
    simp only [CRT] at h
    obtain ⟨cs, h1, h2⟩ := CRT_at l i (j + 1) vs.tail t hi h.2
    refine ⟨cs, by cases vs <;> simp_all, by rw [show j + (i + 1) = j + 1 + i by omega]; exact h2⟩

theorem op_extract (hF : FR C n env a w) {x : Operand} {j : Nat} {o : Oper} (ho : o.op = .extract x j) (hok : opOk n o = true)
    (h : (rdv x fun
    | .tup l => match l[j]? with
      | some t => fin o.dst t
      | none => .fail
    | _ => .fail).sat AF env U R) {Q : Exit → Act → World → Prop} :
    o.wp C.P a w (fun a' w' => FR C n (U ++ env) a' w') Q := by
  obtain ⟨hd, hn, κ, V, hI, hV⟩ := hF
  obtain ⟨v, R', h1, hv⟩ := rdv_sat hI hV (opnd_ok hok (by simp [ho, Op.operands])) h
  cases v <;> try (simp [Rd.sat] at h1; done)
  rename_i l
  cases hl : l[j]? with
  | none => simp [hl, Rd.sat] at h1
  | some t0 =>
    simp only [hl] at h1
    have hno := hv.1
    obtain ⟨s0, cs, e1, e2⟩ := hv.cells
    simp only [CR] at e2
    obtain ⟨vs, rfl, hC⟩ := e2
    simp only [mkv, List.headD] at e1
    obtain ⟨c0, h2, h3⟩ := CRT_at l j 0 vs t0 hl hC
    simp only [T.noOwn] at hno
    refine wp_value (v := mkv t0 c0) (w' := w) ?_ (fin_FR hd hn hI hV (dst_lt hok) (HV.of_CR ((noOwnL_iff l).1 hno t0 (List.mem_of_getElem? hl)) h3) h1)
    simp [execOp, ho, e1, Instr.extract, h2]

theorem elems_len {v : T} {u : Value} (hI : Inv C env V w κ) (hv : HV (cx C env w κ) v u) {c : List T → Rd} (h : (elems v c).sat AF env U R) :
    ∃ l R' ad cap, u = .slice ad l.length cap ∧ (c l).sat AF env U R' := by
  cases v <;> try (simp [elems, Rd.sat] at h; done)
  case nil =>
    obtain ⟨s0, cs, e1, e2⟩ := hv.cells
    simp only [CR] at e2
    subst e2
    exact ⟨[], R, none, 0, by simpa [mkv] using e1, h⟩
  case sl o e l =>
    cases o with
    | true => simp [elems, Rd.sat] at h
    | false =>
      obtain ⟨s0, cs, e1, e2⟩ := hv.cells
      simp only [CR] at e2
      obtain ⟨ad, cap, rfl, _⟩ := e2
      exact ⟨l, R, ad, cap, by simpa [mkv] using e1, h⟩
  case ref s k p =>
    simp only [elems] at h
    obtain ⟨T0, nd, R', hs, hg, hnn, h1⟩ := rdn_sat h
    cases nd <;> try (simp [T.isNode] at hnn; done)
    case box => simp [Rd.sat] at h1
    case sl o' e' l =>
      cases o' with
      | false => simp [T.isNode] at hnn
      | true =>
        obtain ⟨s0, hc⟩ := hv.ref_cells
        obtain ⟨b, cap, cur, e1, _⟩ := hI.ref_eq hs hg hnn hc
        simp only [headOf, List.cons.injEq, and_true] at e1
        exact ⟨l, R', _, cap, e1, h1⟩

theorem rdvL_sat (hI : Inv C env V w κ) (hV : ∀ t, t < 1000000 → V t = a.tmps.getD t undef) : ∀ (xs : List Operand) (c : List T → Rd) (R : List Nat), (∀ x ∈ xs, opndOk x = true) → (rdvL xs c).sat AF env U R →
    ∃ vs R', (c vs).sat AF env U R' ∧ vs.length = xs.length ∧ (∀ j (hj : j < vs.length) (hx : j < xs.length), HV (cx C env w κ) vs[j] (a.eval xs[j]))
  | [], c, R, _, h => ⟨[], R, h, rfl, fun j hj => by simp at hj⟩
  | x :: xs, c, R, hx, h => by
    simp only [rdvL] at h
    obtain ⟨v, R', h1, hv⟩ := rdv_sat hI hV (hx x (by simp)) h
    obtain ⟨vs, R'', h2, hl, h3⟩ := rdvL_sat hI hV xs _ R' (fun y hy => hx y (by simp [hy])) h1
    refine ⟨v :: vs, R'', h2, by simp [hl], fun j hj hx' => ?_⟩
    cases j with
    | zero => exact hv
    | succ j => exact h3 j (by simpa using hj) (by simpa using hx')

theorem op_makeFunc (hF : FR C n env a w) {f : FuncId} {first caps : Array Operand} {o : Oper} (ho : o.op = .makeFunc (.func f) first caps) (hok : opOk n o = true) (hfirst : first.size = 0)
    (h : (rdvL caps.toList fun vs => fin o.dst (.fn f vs)).sat AF env U R) {Q : Exit → Act → World → Prop} :
    o.wp C.P a w (fun a' w' => FR C n (U ++ env) a' w') Q := by
  obtain ⟨hd, hn, κ, V, hI, hV⟩ := hF
  obtain ⟨vs, R', h1, hl, h2⟩ := rdvL_sat hI hV caps.toList _ R (fun x hx => opnd_ok hok (by simp [ho, Op.operands]; right; simpa using hx)) h
  have hf0 : first = #[] := Array.eq_empty_of_size_eq_zero hfirst
  subst hf0
  refine wp_value (v := .func (.func f) #[] (caps.map a.eval)) (w' := w) (by simp [execOp, ho, Instr.makeFunc]) (fin_FR hd hn hI hV (dst_lt hok) ⟨?_, 0, [.func (.func f) #[] (caps.map a.eval)], rfl, ?_⟩ h1)
  · simp only [T.noOwn]
    rw [noOwnL_iff]
    intro t ht
    obtain ⟨j, hj, rfl⟩ := List.getElem_of_mem ht
    exact (h2 j hj (by omega)).1
  · simp only [CR]
    refine ⟨caps.toList.map a.eval, by rw [← Array.toList_map, Array.toArray_toList], ?_⟩
    have key : ∀ (l : List T) (xs : List Operand) (i : Nat), l.length = xs.length → (∀ j (hj : j < l.length) (hx : j < xs.length), HV (cx C env w κ) l[j] (a.eval xs[j])) → CRT (cx C env w κ) 0 [] i l (xs.map a.eval) := by
      intro l
      induction l with
      | nil =>
        intro xs i hl _
        cases xs with
        | nil => simp [CRT]
        | cons x xs => simp at hl
      | cons t l ih =>
        intro xs i hl hh
        cases xs with
        | nil => simp at hl
        | cons x xs =>
          have h0 := hh 0 (by simp) (by simp)
          simp only [List.getElem_cons_zero] at h0
          have hno := h0.1
          obtain ⟨s0, cs, e1, e2⟩ := h0.cells
          simp only [List.map_cons, CRT, List.head?_cons, List.tail_cons]
          exact ⟨⟨_, cs, rfl, e1, CR_noOwn _ _ s0 0 rfl (fun _ h => ⟨h, rfl⟩) (fun _ _ _ h => ⟨h, fun hn => ⟨hn, fun _ _ h => h⟩⟩) t [] _ cs hno e2⟩,
            ih xs (i + 1) (by simpa using hl) (fun j hj hx => hh (j + 1) (by simpa using hj) (by simpa using hx))⟩
    exact key vs caps.toList 0 hl h2

end

end Go.Proofs.Ytjkhggbjkkobaaa

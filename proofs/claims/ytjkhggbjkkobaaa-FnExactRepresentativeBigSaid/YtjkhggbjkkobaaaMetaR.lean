/-
  The generic part, eighteenth text: literals of slices and structs; slice expressions.
-/
import Derived.Test.YtjkhggbjkkobaaaMetaQ
namespace Go.Proofs.Ytjkhggbjkkobaaa
open Go.RowKit

section
variable {C : Ctx} {env : Env} {V : Nat → Value} {w : World} {κ : Kap} {a : Act} {AF : FuncId → List T → T → Prop} {U : List (Nat × Slot)} {R : List Nat} {n : Nat}
variable {tt : Tt} {P : Program}

theorem fill_row : ∀ (vs : List Value) (k : Nat) (cells : Array Value), k + vs.length ≤ cells.size → (∀ v ∈ vs, v.cells = #[v]) →
    ∃ out, Instr.fill (fun i => some (i, 1)) cells ((vs.zipIdx k).map fun x => (x.2, x.1)) = some out ∧ out.size = cells.size ∧ (∀ j, j < k → out[j]? = cells[j]?) ∧ (∀ j v, vs[j]? = some v → out[k + j]? = some v)
  | [], k, cells, _, _ => ⟨cells, by simp [Instr.fill], rfl, fun _ _ => rfl, fun j v h => by simp at h⟩
  | v :: vs, k, cells, hl, hc => by
    simp only [List.length_cons] at hl
    have hv := hc v (by simp)
    obtain ⟨out, h1, h2, h3, h4⟩ := fill_row vs (k + 1) (cells.setIfInBounds k v) (by simp; omega) (fun u hu => hc u (by simp [hu]))
    refine ⟨out, ?_, by simpa using h2, fun j hj => ?_, fun j u hj => ?_⟩
    · simp only [List.zipIdx_cons, List.map_cons, Instr.fill, hv]
      rw [if_neg (by simp; omega)]
      have : ((#[v] : Array Value).zipIdx.foldl (fun cs (x : Value × Nat) => cs.setIfInBounds (k + x.2) x.1) cells) = cells.setIfInBounds k v := by simp
      rw [← h1, ← this]
    · rw [h3 j (by omega), Array.getElem?_setIfInBounds_ne (by omega)]
    · cases j with
      | zero =>
        simp at hj; subst hj
        rw [h3 (k + 0) (by omega), Nat.add_zero]
        simp [show k < cells.size by omega]
      | succ j =>
        simp at hj
        have := h4 j u hj
        rw [show k + (j + 1) = k + 1 + j by omega]; exact this

theorem plain_one {t : T} (hp : t.plain = true) (hs : t.size = 1) {X : Cx} {u : Value} (hv : HV X t u) (ha : t.isAgg = false) : u.cells = #[u] ∧ ∀ (X' : Cx) (s : Nat) (p : List Nat), CR X' s p t [u] := by
  obtain ⟨s0, cs, e1, e2⟩ := hv.cells
  cases t <;> try (simp_all [T.plain, T.isAgg, CR, mkv, Value.cells]; done)
  case str c =>
    simp only [CR] at e2
    subst e2
    simp only [mkv, List.headD] at e1
    subst e1
    cases c <;> simp [CR, Value.cells, Con.val]

theorem op_buildSlice (hP : TtOk C.P tt) (hF : FR C n env a w) {t e : TypeId} {sz by_ : Nat} {z : T} (hit : tyAt tt t = some ⟨sz, by_, z, .slice e⟩) {ie : Ty} (hie : tyAt tt e = some ie) {m : Nat} {parts : Array (Nat × Operand)} {o : Oper}
    (ho : o.op = .buildSlice t m parts) (hok : opOk n o = true) (hs1 : ie.size = 1) (hparts : parts.toList.map (·.1) = List.range m) (hm : m ≤ 1000) (hag : ie.zero.isAgg = false)
    (h : (rdvL (parts.toList.map (·.2)) fun vs => if vs.all (fun v => v.plain && !v.isAgg) then .need (∀ v ∈ vs, v.size = 1) (finOwn o.dst (.sl true e vs) []) else .fail).sat AF env U R) {Q : Exit → Act → World → Prop} :
    o.wp C.P a w (fun a' w' => FR C n (U ++ env) a' w') Q := by
  obtain ⟨hd, hn, κ, V, hI, hV⟩ := hF
  obtain ⟨vs, R', h1, hl, h2⟩ := rdvL_sat hI hV (parts.toList.map (·.2)) _ R (fun x hx => by
    rw [List.mem_map] at hx
    obtain ⟨y, hy, rfl⟩ := hx
    exact opnd_ok hok (by simp [ho, Op.operands]; exact ⟨y.1, by simpa using hy⟩)) h
  split at h1
  · rename_i hall
    simp only [Rd.sat] at h1
    obtain ⟨hsz, h3⟩ := h1
    obtain ⟨d, hdst, rfl⟩ := finOwn_sat h3
    have hml : vs.length = m := by rw [hl, List.length_map, ← List.length_map (f := (·.1)), hparts, List.length_range]
    let us : List Value := (parts.toList.map (·.2)).map a.eval
    have hus : us.length = m := by simp only [us, List.length_map]; rw [← hml, hl, List.length_map]
    have hone : ∀ (j : Nat) (v : T) (u : Value), vs[j]? = some v → us[j]? = some u → u.cells = #[u] ∧ ∀ (X' : Cx) (s : Nat) (p : List Nat), CR X' s p v [u] := by
      intro j v u hv hu
      obtain ⟨hj, rfl⟩ := List.getElem?_eq_some_iff.1 hv
      have hj2 : j < (parts.toList.map (·.2)).length := by omega
      have := h2 j hj hj2
      have hu' : u = a.eval (parts.toList.map (·.2))[j] := by
        simp only [us] at hu
        rw [List.getElem?_map, List.getElem?_eq_getElem hj2] at hu
        simpa using hu.symm
      subst hu'
      have ha := List.all_eq_true.1 hall _ (List.getElem_mem hj)
      simp only [Bool.and_eq_true, Bool.not_eq_true'] at ha
      exact plain_one ha.1 (hsz _ (List.getElem_mem hj)) this ha.2
    have hcell : ∀ u ∈ us, u.cells = #[u] := by
      intro u hu
      obtain ⟨j, hj, rfl⟩ := List.getElem_of_mem hu
      have hjv : j < vs.length := by omega
      exact (hone j vs[j] us[j] (List.getElem?_eq_getElem hjv) (List.getElem?_eq_getElem hj)).1
    obtain ⟨ti, i1, i2, i3, i4⟩ := info_of hP hie
    have hplain := (hP e ie hie).2.1
    obtain ⟨zv, z1, z2, z3, z4⟩ := zc_one hplain (by rw [(hP e ie hie).2.2.1]; exact hs1) hag
    have hpe : (parts.map fun x => (x.1, a.eval x.2)).toList = (us.zipIdx 0).map fun x => (x.2, x.1) := by
      rw [Array.toList_map]
      apply List.ext_getElem?
      intro j
      simp only [us, List.getElem?_map, List.getElem?_zipIdx, Option.map_map]
      cases hj : parts.toList[j]? with
      | none => simp
      | some x =>
        have : (parts.toList.map (·.1))[j]? = some x.1 := by rw [List.getElem?_map, hj]; rfl
        rw [hparts] at this
        have hjj := (List.getElem?_eq_some_iff.1 this)
        obtain ⟨hjm, hjx⟩ := hjj
        simp at hjx
        simp [← hjx]
    have hmk : ∀ k, ((Array.range k).map (fun i => (if k = 0 then (#[] : Array Value) else #[zv])[i % (if k = 0 then (#[] : Array Value) else #[zv]).size]!)).size = k := fun k => by simp
    obtain ⟨out, f1, f2, f3, f4⟩ := fill_row us 0 ((Array.range m).map (fun i => (if m = 0 then (#[] : Array Value) else #[zv])[i % (if m = 0 then (#[] : Array Value) else #[zv]).size]!)) (by rw [hmk, hus]; omega) hcell
    rw [hmk] at f2
    have hrun : (execOp a.eval o).run C.P w = .ok (.value (.slice (some ⟨w.heap.size, 0, none⟩) m m)) (w.alloc (.cells out e)) := by
      have hnot : ¬ (m > 2 ^ 24) := by omega
      simp only [execOp, ho, Instr.buildSlice, Sem.run_bind, run_underlying (under_slice hP hit), Result.andThen_ok, run_sizeOf hP hie, hs1, Nat.mul_one]
      rw [if_neg hnot]
      by_cases hm0 : m = 0
      · rw [if_pos hm0]
        rw [if_pos hm0] at f1
        simp only [Sem.run_bind, Sem.run_pure, Result.andThen_ok]
        rw [hpe, f1]
        rfl
      · rw [if_neg hm0]
        rw [if_neg hm0] at f1
        simp only [Sem.run_bind, zeroValue, typeInfo, run_program, Result.andThen_ok, i1, Sem.run_pure, i2, z2, z3]
        rw [hpe, f1]
        rfl
    refine wp_value hrun ?_
    rw [hdst]
    refine new_FR hd hn hI hV (dst_lt hok d hdst) (.sl true e vs) rfl ?_ _ _ (fun X' g1 g2 g3 g4 => ?_)
    · simp only [T.refFree]
      rw [refFreeL_iff]
      intro t ht
      have ha := List.all_eq_true.1 hall t ht
      simp only [Bool.and_eq_true] at ha
      exact (plain_facts t ha.1).2.1
    · have hszX : X'.sz e = 1 := by rw [g1, sz_of hP hie, hs1]
      simp only [CR]
      rw [hml]
      refine ⟨w.heap.size, m, out, rfl, by rw [g2]; exact heap_alloc_new w _, g4, Nat.le_refl _, by unfold maxLen; omega, by rw [f2, hszX, Nat.mul_one], fun t ht => by rw [hszX]; exact hsz t ht, ?_⟩
      rw [hszX, Nat.mul_one, List.take_of_length_le (by simp [f2])]
      refine CRL_of_cells _ 0 _ (by simp [f2, hml]) hsz (fun j t v hj hv => ?_)
      have hjm : j < m := by have := (List.getElem?_eq_some_iff.1 hj).1; omega
      have huj : us[j]? = some us[j] := List.getElem?_eq_getElem (by omega)
      have := f4 j us[j] huj
      rw [Nat.zero_add] at this
      rw [Array.getElem?_toList, this] at hv
      have hv' : v = us[j] := by simpa using hv.symm
      subst hv'
      exact (hone j t us[j] hj huj).2 X' d _
  · simp [Rd.sat] at h1

theorem vetted_sat (hI : Inv C env V w κ) {v : T} {u : Value} (hv : HV (cx C env w κ) v u) {c : Rd} (h : (vetted v c).sat AF env U R) :
    ∃ s0 cs R', u = mkv v cs ∧ CR (cx C env w κ) s0 [] v cs ∧ u.cells = cs.toArray ∧ c.sat AF env U R' := by
  by_cases hr : ∃ s k p, v = .ref s k p
  · obtain ⟨s, k, p, rfl⟩ := hr
    simp only [vetted] at h
    obtain ⟨T0, nd, R', hs, hg, hnd, h1⟩ := rdn_sat h
    obtain ⟨s0, hc⟩ := hv.ref_cells
    obtain ⟨b, cap, cur, e1, _⟩ := hI.ref_eq hs hg hnd hc
    simp at e1
    refine ⟨s0, [u], R', rfl, hc, ?_, h1⟩
    rw [e1]
    cases nd <;> simp [headOf, Value.cells]
  · have he : vetted v c = if v.solid && v.refFree then c else .fail := by
      cases v <;> first | rfl | exact absurd ⟨_, _, _, rfl⟩ hr
    rw [he] at h
    split at h
    · rename_i hc
      simp only [Bool.and_eq_true] at hc
      obtain ⟨s0, cs, e1, e2⟩ := hv.cells
      exact ⟨s0, cs, R, e1, e2, by rw [e1]; exact mkv_cells (CR_len _ _ _ _ _ e2) (oneCell_of_solid v [] cs hc.1 hc.2 e2), h⟩
    · simp [Rd.sat] at h

theorem foldl_set (c : List Value) : ∀ (off k : Nat) (cs : Array Value), off + k + c.length ≤ cs.size →
    ((c.zipIdx k).foldl (fun cs (x : Value × Nat) => cs.setIfInBounds (off + x.2) x.1) cs).toList = splice cs.toList (off + k) c := by
  induction c with
  | nil => intro off k cs h; simp [splice]
  | cons x c ih =>
    intro off k cs h
    simp only [List.length_cons] at h
    simp only [List.zipIdx_cons, List.foldl_cons]
    rw [ih off (k + 1) _ (by simp; omega)]
    simp only [Array.toList_setIfInBounds, splice, List.length_cons]
    have h1 : off + k < cs.toList.length := by simp; omega
    rw [show off + (k + 1) = off + k + 1 by omega, List.take_succ_eq_append_getElem (by simp; omega)]
    rw [List.take_set_of_le (by omega), List.getElem_set_self, List.drop_set_of_lt (by omega)]
    simp [Nat.add_assoc, Nat.add_comm 1]

theorem buildRd_sat (hI : Inv C env V w κ) (hV : ∀ t, t < 1000000 → V t = a.tmps.getD t undef) {fs : List (TypeId × Nat × Nat)} {places : Array (Nat × Nat)} (hpl : ∀ (j : Nat) (x : TypeId × Nat × Nat), fs[j]? = some x → places[j]? = some (x.2.1, x.2.2)) :
    ∀ (l : List (Nat × Operand)) (acc : List T) (cur : Array Value) (c : List T → Rd) (R : List Nat), (∀ x ∈ l, opndOk x.2 = true) → T.noOwnL acc = true → (∃ s, CRL (cx C env w κ) s [] 0 acc cur.toList) →
    (buildRd fs l acc c).sat AF env U R →
    ∃ acc' cur' R', (c acc').sat AF env U R' ∧ T.noOwnL acc' = true ∧ (∃ s, CRL (cx C env w κ) s [] 0 acc' cur'.toList) ∧ Instr.fill (places[·]?) cur (l.map fun x => (x.1, a.eval x.2)) = some cur'
  | [], acc, cur, c, R, _, hno, hC, h => ⟨acc, cur, R, h, hno, hC, by simp [Instr.fill]⟩
  | (j, x) :: l, acc, cur, c, R, hok, hno, ⟨s, hC⟩, h => by
    simp only [buildRd] at h
    obtain ⟨v, R', h1, hv⟩ := rdv_sat hI hV (hok (j, x) (by simp)) h
    obtain ⟨s0, cs, R'', e1, e2, e3, h2⟩ := vetted_sat hI hv h1
    cases hz : acc[j]? with
    | none => simp [hz, Rd.sat] at h2
    | some z =>
      cases hf : fs[j]? with
      | none => simp [hz, hf, Rd.sat] at h2
      | some y =>
        obtain ⟨tf, offf, szf⟩ := y
        simp only [hz, hf, Rd.sat] at h2
        obtain ⟨⟨c1, c2, c3⟩, h3⟩ := h2
        have hlen := CR_len _ _ _ _ _ e2
        have hlc := CRL_len _ _ _ _ _ _ hC
        have hle := sizeL_take_le acc j z hz
        have hC' := CRL_put (X' := cx C env w κ) acc j 0 cur.toList z v cs hz hC (fun m _ => ⟨rfl, fun _ h => ⟨h, rfl⟩, fun _ _ _ h => ⟨h, rfl⟩, fun _ _ _ h => ⟨h, fun hn => ⟨hn, fun _ _ hk => hk⟩⟩⟩) (by rw [c2, c3]) (by rw [hlen, c2, c3])
          (CR_noOwn _ _ s0 s rfl (fun _ h => ⟨h, rfl⟩) (fun _ _ _ h => ⟨h, fun hn => ⟨hn, fun _ _ h => h⟩⟩) v [] _ cs hv.1 e2)
        have hno' : T.noOwnL (acc.set j v) = true := by
          rw [noOwnL_iff] at hno ⊢
          intro t ht
          rcases List.mem_or_eq_of_mem_set ht with ht | rfl
          · exact hno t ht
          · exact hv.1
        have hsz0 : cur.toList.length = cur.size := by simp
        obtain ⟨acc', cur', R3, k1, k2, k3, k4⟩ := buildRd_sat hI hV hpl l (acc.set j v) (splice cur.toList offf cs).toArray c R'' (fun x hx => hok x (by simp [hx])) hno' ⟨s, by rw [c1] at hC'; simpa using hC'⟩ h3
        refine ⟨acc', cur', R3, k1, k2, k3, ?_⟩
        simp only [List.map_cons, Instr.fill]
        rw [hpl j _ hf]
        simp only [e3, List.size_toArray, hlen, c3]
        rw [if_neg (by simp; omega)]
        have hfold : (cs.toArray.zipIdx.foldl (fun cs (x : Value × Nat) => cs.setIfInBounds (offf + x.2) x.1) cur) = (splice cur.toList offf cs).toArray := by
          have := foldl_set cs offf 0 cur (by omega)
          apply Array.ext'
          rw [← Array.foldl_toList]
          simpa using this
        rw [← k4, ← hfold]

theorem op_build (hP : TtOk C.P tt) (hF : FR C n env a w) {t : TypeId} {sz by_ : Nat} {zs : List T} {fs : List (TypeId × Nat × Nat)} (hit : tyAt tt t = some ⟨sz, by_, .agg zs, .struct fs⟩) {parts : Array (Nat × Operand)} {o : Oper}
    (ho : o.op = .build t parts) (hok : opOk n o = true) (hfs0 : fs.all (fun x => x.2.2 != 0) = true) (h : (buildRd fs parts.toList zs fun l => fin o.dst (.agg l)).sat AF env U R) {Q : Exit → Act → World → Prop} :
    o.wp C.P a w (fun a' w' => FR C n (U ++ env) a' w') Q := by
  obtain ⟨hd, hn, κ, V, hI, hV⟩ := hF
  obtain ⟨fields, hu, hfs, _⟩ := under_struct hP hit
  obtain ⟨ti, i1, i2, i3, i4⟩ := info_of hP hit
  have hplain := (hP t _ hit).2.1
  simp only at i2 hplain
  have hpz := plain_facts (.agg zs) hplain
  have hfields : ∀ (l : List Field), (l.map (fun f => (f.type, f.offset, C.P.cellsOf f.type))).all (fun x => x.2.2 != 0) = true → (l.mapM (m := Sem) fun f => do pure (f.offset, ← sizeOf f.type)).run C.P w = .ok (l.map fun f => (f.offset, C.P.cellsOf f.type)) w := by
    intro l
    induction l with
    | nil => intro _; rfl
    | cons f l ih =>
      intro h
      simp only [List.map_cons, List.all_cons, Bool.and_eq_true, bne_iff_ne, ne_eq] at h
      simp only [List.mapM_cons, Sem.run_bind, run_sizeOf' (P := C.P) h.1, Result.andThen_ok, Sem.run_pure, ih h.2, List.map_cons]
  obtain ⟨acc', cur', R', h1, h2, ⟨s, h3⟩, h4⟩ := buildRd_sat (a := a) hI hV (fs := fs) (places := (fields.map fun f => (f.offset, C.P.cellsOf f.type))) (fun j x hj => by
      obtain ⟨fd, g1, g2, g3, g4⟩ := fields_at hfs hj
      simp [g1, g3, g4]) parts.toList zs (T.zcL zs).toArray _ R (fun x hx => opnd_ok hok (by simp [ho, Op.operands]; exact ⟨x.1, by simpa using hx⟩)) (by
        have := pureL_noOwn zs (by simpa [T.pure] using hpz.1); exact this) ⟨0, by simpa using CRL_zc (cx C env w κ) 0 zs [] 0 (by simpa [T.plain] using hplain)⟩ h
  refine wp_value (v := .agg cur') (w' := w) ?_ (fin_FR hd hn hI hV (dst_lt hok) ⟨by simpa [T.noOwn] using h2, s, cur'.toList, by simp [mkv], by simp only [CR]; exact h3⟩ h1)
  have hm := hfields fields.toList (by rw [hfs]; exact hfs0)
  have hmA : (fields.mapM (m := Sem) fun f => do pure (f.offset, ← sizeOf f.type)).run C.P w = .ok (fields.map fun f => (f.offset, C.P.cellsOf f.type)) w := by
    rw [Array.mapM_eq_mapM_toList, Sem.run_map, hm, Result.andThen_ok]
    congr 1
    apply Array.ext'
    simp
  have hz0 : (mkv (T.agg zs) (T.agg zs).zc).cells = (T.zcL zs).toArray := by simp [mkv, T.zc, Value.cells]
  have hparts : (parts.map fun x => (x.1, a.eval x.2)).toList = parts.toList.map fun x => (x.1, a.eval x.2) := by simp
  simp only [execOp, ho, Instr.build, Sem.run_bind, zeroValue, typeInfo, run_program, Result.andThen_ok, i1, Sem.run_pure, i2, run_underlying hu, hmA, hz0, hparts, h4]

theorem boundRd_sat (hI : Inv C env V w κ) (hV : ∀ t, t < 1000000 → V t = a.tmps.getD t undef) {x : Option Operand} {dflt : Int} {c : Int → Rd} (hx : ∀ y, x = some y → opndOk y = true) (h : (boundRd x dflt c).sat AF env U R) :
    ∃ m R', (c m).sat AF env U R' ∧ ((x = none ∧ m = dflt) ∨ ∃ y k, x = some y ∧ a.eval y = .int k m) := by
  cases x with
  | none => exact ⟨dflt, R, h, .inl ⟨rfl, rfl⟩⟩
  | some y =>
    simp only [boundRd] at h
    obtain ⟨v, R', h1, hv⟩ := rdv_sat hI hV (hx y rfl) h
    obtain ⟨k, m, rfl, h2⟩ := intRd_sat h1
    exact ⟨m, R', h2, .inr ⟨y, k, rfl, hv.int⟩⟩

theorem op_slice (hP : TtOk C.P tt) (hF : FR C n env a w) {t e : TypeId} {sz by_ : Nat} {z : T} (hit : tyAt tt t = some ⟨sz, by_, z, .slice e⟩) {ie : Ty} (hie : tyAt tt e = some ie) {x : Operand} {lo hi : Option Operand} {o : Oper}
    (ho : o.op = .slice t x lo hi none) (hok : opOk n o = true)
    (h : (rdv x fun
        | .sl false e' l =>
          boundRd lo 0 fun a => boundRd hi l.length fun b => .need (e' = e ∧ 0 ≤ a ∧ a ≤ b ∧ b ≤ l.length) (fin o.dst (.sl false e ((l.take b.toNat).drop a.toNat)))
        | _ => .fail).sat AF env U R) {Q : Exit → Act → World → Prop} :
    o.wp C.P a w (fun a' w' => FR C n (U ++ env) a' w') Q := by
  obtain ⟨hd, hn, κ, V, hI, hV⟩ := hF
  obtain ⟨v, R', h1, hv⟩ := rdv_sat hI hV (opnd_ok hok (by simp [ho, Op.operands])) h
  cases v <;> try (simp [Rd.sat] at h1; done)
  rename_i o' e' l
  cases o' with
  | true => simp [Rd.sat] at h1
  | false =>
    simp only at h1
    obtain ⟨lo', R1, h2, hlo⟩ := boundRd_sat hI hV (fun y hy => opnd_ok hok (by simp [ho, Op.operands, hy])) h1
    obtain ⟨hi', R2, h3, hhi⟩ := boundRd_sat hI hV (fun y hy => opnd_ok hok (by simp [ho, Op.operands, hy])) h2
    simp only [Rd.sat] at h3
    obtain ⟨⟨rfl, c1, c2, c3⟩, h4⟩ := h3
    obtain ⟨s0, cs, e1, e2⟩ := hv.cells
    simp only [CR] at e2
    obtain ⟨ad, cap, rfl, g1, g2, g3, g4, g5⟩ := e2
    simp only [mkv, List.headD] at e1
    obtain ⟨L, rfl⟩ := Int.eq_ofNat_of_zero_le c1
    obtain ⟨H, rfl⟩ := Int.eq_ofNat_of_zero_le (show 0 ≤ hi' by omega)
    have hLH : L ≤ H := by omega
    have hHl : H ≤ l.length := by omega
    have hrun : (execOp a.eval o).run C.P w = .ok (.value (.slice (if cap = L then ad else ad.map (·.add (L * ie.size))) (H - L) (cap - L))) w := by
      have hb : (Instr.sliceBounds true l.length cap (lo.map a.eval) (hi.map a.eval) none).run C.P w = .ok (L, H, cap) w := by
        rcases hlo with ⟨rfl, hl0⟩ | ⟨y, k, rfl, hy⟩
        · have hL0 : L = 0 := by omega
          subst hL0
          rcases hhi with ⟨rfl, hh0⟩ | ⟨y2, k2, rfl, hy2⟩
          · have : H = l.length := by omega
            subst this
            simp [Instr.sliceBounds]
          · have h2 : (0 : Int) ≤ (H : Int) ∧ (H : Int) ≤ (cap : Int) := by omega
            simp [Instr.sliceBounds, hy2, Instr.sliceBound, asIntOf]
            omega
        · rcases hhi with ⟨rfl, hh0⟩ | ⟨y2, k2, rfl, hy2⟩
          · have : H = l.length := by omega
            subst this
            simp [Instr.sliceBounds, hy, Instr.sliceBound, asIntOf]
            omega
          · have h2 : (0 : Int) ≤ (H : Int) ∧ (H : Int) ≤ (cap : Int) := by omega
            have h3 : (0 : Int) ≤ (L : Int) ∧ (L : Int) ≤ (H : Int) := by omega
            have h4 : H ≤ cap := by omega
            simp [Instr.sliceBounds, hy, hy2, Instr.sliceBound, asIntOf, h4, hLH]
      simp only [execOp, ho, Instr.sliceAt, Sem.run_bind, run_underlying (under_slice hP hit), Result.andThen_ok, Instr.slice, e1, Option.map_none, hb, run_sizeOf hP hie, Sem.run_pure]
    refine wp_value hrun (fin_FR hd hn hI hV (dst_lt hok) ⟨rfl, s0, [_], rfl, ?_⟩ h4)
    simp only [CR, Int.toNat_natCast]
    have hll : ((l.take H).drop L).length = H - L := by simp; omega
    rw [hll]
    refine ⟨_, cap - L, rfl, by omega, by unfold maxLen at g2 ⊢; omega, fun t ht => g3 t (List.mem_of_mem_take (List.mem_of_mem_drop ht)), ?_, fun hne => ?_⟩
    · rw [pureL_iff] at g4 ⊢
      exact fun t ht => g4 t (List.mem_of_mem_take (List.mem_of_mem_drop ht))
    · have hlne : l ≠ [] := by intro h; subst h; simp at hne
      have hpos : L < H := by
        rcases Nat.lt_or_ge L H with h | h
        · exact h
        · exfalso; apply hne; apply List.eq_nil_of_length_eq_zero; rw [hll]; omega
      obtain ⟨b, off, rfl, hFb, cur, e'', fz, hb, hle, hC⟩ := g5 hlne
      have hX : (cx C env w κ).sz e' = ie.size := sz_of hP hie
      rw [hX] at hle hC ⊢
      refine ⟨b, off + L * ie.size, ?_, hFb, cur, e'', fz, hb, ?_, ?_⟩
      · rw [if_neg (by omega)]; simp [addr_add]
      · have : H * ie.size ≤ l.length * ie.size := Nat.mul_le_mul_right _ hHl
        have h2 : L * ie.size + (H - L) * ie.size = H * ie.size := by rw [← Nat.add_mul]; congr 1; omega
        omega
      · have hsplit : ∀ (l : List T) (L H i : Nat) (cs : List Value), (∀ t ∈ l, t.size = ie.size) → L ≤ H → H ≤ l.length → T.pureL l = true → CRL (cx C env w κ) s0 [] i l cs →
            CRL (cx C env w κ) s0 [] i ((l.take H).drop L) ((cs.drop (L * ie.size)).take ((H - L) * ie.size)) := by
          intro l
          induction l with
          | nil =>
            intro L H i cs _ h1 h2 _ h
            have hH : H = 0 := by simpa using h2
            subst hH
            have hL : L = 0 := by omega
            subst hL
            simp [CRL]
          | cons t l ih =>
            intro L H i cs hs h1 h2 hp h
            simp only [CRL] at h
            have ht := hs t (by simp)
            have hlen := CR_len _ _ _ _ _ h.1
            simp only [List.length_take] at hlen
            simp only [T.pureL, Bool.and_eq_true] at hp
            cases L with
            | succ L =>
              cases H with
              | zero => omega
              | succ H =>
                have := ih L H (i + 1) (cs.drop t.size) (fun t ht => hs t (by simp [ht])) (by omega) (by simpa using h2) hp.2 h.2
                simp only [List.take_succ_cons, List.drop_succ_cons]
                rw [List.drop_drop, ht] at this
                rw [show (L + 1) * ie.size = ie.size + L * ie.size by rw [Nat.add_mul, Nat.one_mul, Nat.add_comm], show H + 1 - (L + 1) = H - L by omega]
                exact CRL_pureI rfl (fun _ h => ⟨h, rfl⟩) _ [] [] (i + 1) i _ (by
                  rw [pureL_iff]; intro t ht
                  exact (pureL_iff l).1 hp.2 t (List.mem_of_mem_take (List.mem_of_mem_drop ht))) this
            | zero =>
              cases H with
              | zero => simp [CRL]
              | succ H =>
                have := ih 0 H (i + 1) (cs.drop t.size) (fun t ht => hs t (by simp [ht])) (by omega) (by simpa using h2) hp.2 h.2
                simp only [List.drop_zero, Nat.zero_mul, Nat.sub_zero] at this ⊢
                simp only [List.take_succ_cons, CRL]
                rw [List.take_take, List.drop_take]
                have hmul : (H + 1) * ie.size = ie.size + H * ie.size := by rw [Nat.add_mul, Nat.one_mul, Nat.add_comm]
                rw [ht] at h this ⊢
                rw [hmul, show min ie.size (ie.size + H * ie.size) = ie.size by omega, show ie.size + H * ie.size - ie.size = H * ie.size by omega]
                exact ⟨h.1, this⟩
        have := hsplit l L H 0 _ (fun t ht => by have := g3 t ht; rw [hX] at this; exact this) hLH hHl g4 hC
        have h2 : L * ie.size + (H - L) * ie.size = H * ie.size := by rw [← Nat.add_mul]; congr 1; omega
        have h3 : H * ie.size ≤ l.length * ie.size := Nat.mul_le_mul_right _ hHl
        have hcs : (((cur.toList.drop off).take (l.length * ie.size)).drop (L * ie.size)).take ((H - L) * ie.size) = (cur.toList.drop (off + L * ie.size)).take ((H - L) * ie.size) := by
          rw [List.drop_take, List.drop_drop, List.take_take, show min ((H - L) * ie.size) (l.length * ie.size - L * ie.size) = (H - L) * ie.size by omega]
        rw [hcs] at this
        exact this

end

end Go.Proofs.Ytjkhggbjkkobaaa

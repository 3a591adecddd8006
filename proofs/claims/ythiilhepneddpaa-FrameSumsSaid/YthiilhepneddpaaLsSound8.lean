/- Rows of literals, make, maps. -/
import Derived.Test.YthiilhepneddpaaLsSound7
set_option linter.unusedVariables false
set_option linter.unusedSimpArgs false
namespace Go.LS
section ops
variable {P : Program} {G : Gh} {st st' : List LObj} {w : World} {t : List LV} {a : Act} {o : Oper} {v : LV}

theorem op_build_array {ty e : TypeId} {m : Nat} {parts : Array (Nat × Operand)} (ho : o.op = .build ty parts) (hty : P.underlying ty = some (.array m e)) {inf : TypeInfo} (hinf : P.info? e = some inf)
    {z : List LV} (hz : zeroOf P ty = some z) {ps : List (Nat × Nat × LX)} (hps : compElems inf.size parts.toList = some ps) {qs : List (Nat × Nat × List LV)} (hq : evParts t ps = some qs)
    {cs : List LV} (hcs : setParts z qs = some cs) (h : WR G st w) (hx : XsR G t a o.op) : OpTo P o a w (Good G st w (.agg cs) st) := by
  obtain ⟨i, zv, hi, hzv, hzr⟩ := zeroOf_inv hz
  obtain ⟨g1, g2⟩ := compElems_get hps
  obtain ⟨arr', h1, h2⟩ := fill_sound (G := G) (t := t) (a := a) (fun i => some (i * inf.size, inf.size)) g1
    (fun k i x hk => by
      obtain ⟨off, n, y, e1, ⟨rfl, rfl⟩, e4⟩ := g2 k i x hk
      exact ⟨_, _, y, e1, rfl, e4⟩)
    (fun i x hm y hy => hx x (by rw [ho]; simp only [Op.operands, List.mem_toArray, List.mem_map]; exact ⟨(i, x), by simpa using hm, rfl⟩) y hy) hq hcs (hzr G)
  refine opTo_value (u := .agg arr') (w' := w) ?_ (.same h ?_)
  · have hzr' : (zeroValue ty).run P w = .ok zv w := run_zeroValue hi hzv w
    have hmap : (parts.map fun (x : Nat × Operand) => (x.1, a.eval x.2)).toList = parts.toList.map fun (x : Nat × Operand) => (x.1, a.eval x.2) := by simp
    simp only [execOp, ho, Instr.build, Sem.run_bind, hzr', Result.andThen_ok, run_underlying hty, sizeOf, typeInfo, run_program, hinf, Sem.run_pure, hmap, h1]
  · rcases ofCells_sound (agg := true) (v := .agg cs) h2 rfl with ⟨_, h⟩ | ⟨h, _⟩
    · exact h
    · cases h

theorem rowOk.put {arr vs : Array Value} {es : List (List LV)} {size : Nat} (hr : rowOk G arr es size) (hz : arr.size = es.length * size) {cs : List LV} (hc : CellsR G cs vs) (hl : cs.length = size) {i : Nat} (hi : i < es.length) :
    rowOk G (vs.toList.zipIdx.foldl (fun cs (x : Value × Nat) => cs.setIfInBounds (i * size + x.2) x.1) arr) (es.set i cs) size := by
  have hbig : (i + 1) * size ≤ es.length * size := Nat.mul_le_mul_right _ (by omega)
  rw [Nat.add_mul] at hbig
  have hcz := hc.1
  refine ⟨fun e he => ?_, fun i' j c hc' => ?_⟩
  · rcases List.mem_or_eq_of_mem_set he with he | rfl
    · exact hr.1 e he
    · exact hl
  · by_cases hii : i' = i
    · subst hii
      simp only [at2, List.getElem?_set_self hi, Option.bind_some] at hc'
      obtain ⟨y, a1, a2⟩ := hc.2 j c hc'
      have hj := (List.getElem?_eq_some_iff.1 hc').1
      refine ⟨y, ?_, a2⟩
      rw [fold_set, if_pos ⟨by omega, by simp; omega, by omega⟩]
      simp only [Array.getElem?_toList]
      rw [← a1]; congr 1; omega
    · have hc'' : at2 es i' j = some c := by simpa only [at2, List.getElem?_set_ne (Ne.symm hii)] using hc'
      obtain ⟨y, a1, a2⟩ := hr.2 i' j c hc''
      have hj := at2_lt hr.1 hc''
      refine ⟨y, ?_, a2⟩
      rw [fold_set, if_neg]
      · exact a1
      · rintro ⟨b1, b2, _⟩
        simp at b2
        rcases Nat.lt_or_gt_of_ne hii with hlt | hgt
        · have : (i' + 1) * size ≤ i * size := Nat.mul_le_mul_right _ hlt
          rw [Nat.add_mul] at this; omega
        · have : (i + 1) * size ≤ i' * size := Nat.mul_le_mul_right _ hgt
          rw [Nat.add_mul] at this; omega

theorem compParts_get : ∀ {l : List (Nat × Operand)} {ps : List (Nat × LX)}, compParts l = some ps → ps.length = l.length ∧ ∀ (k i : Nat) x, l[k]? = some (i, x) → ∃ y, ps[k]? = some (i, y) ∧ compX x = some y
  | [], ps, h => by simp only [compParts] at h; cases h; exact ⟨rfl, by simp⟩
  | (i, x) :: r, ps, h => by
    simp only [compParts] at h
    split at h
    · rename_i y l hy hl
      cases h
      obtain ⟨h1, h2⟩ := compParts_get hl
      refine ⟨by simp [h1], fun k i' x' hk => ?_⟩
      cases k with
      | zero => simp at hk; obtain ⟨rfl, rfl⟩ := hk; exact ⟨_, rfl, hy⟩
      | succ k => simpa using h2 k i' x' (by simpa using hk)
    · cases h

theorem fillRow_sound {size : Nat} : ∀ {parts : List (Nat × Operand)} {ps : List (Nat × LX)} {qs : List (Nat × List LV)} {es es' : List (List LV)} {arr : Array Value},
    ps.length = parts.length → (∀ (k i : Nat) x, parts[k]? = some (i, x) → ∃ y, ps[k]? = some (i, y) ∧ compX x = some y) →
    (∀ i x, (i, x) ∈ parts → ∀ y, compX x = some y → VL G (y.ev t) (a.eval x)) → evRow t ps = some qs → litRow size es qs = some es' → rowOk G arr es size → arr.size = es.length * size →
    ∃ arr', Instr.fill (fun i => some (i * size, size)) arr (parts.map fun p => (p.1, a.eval p.2)) = some arr' ∧ rowOk G arr' es' size ∧ arr'.size = es'.length * size ∧ es'.length = es.length
  | [], ps, qs, es, es', arr, hl, hp, hx, he, hs, hr, hz => by
    obtain rfl : ps = [] := by simpa using hl
    simp only [evRow] at he; cases he
    simp only [litRow] at hs; cases hs
    exact ⟨arr, rfl, hr, hz, rfl⟩
  | (i, x) :: r, ps, qs, es, es', arr, hl, hp, hx, he, hs, hr, hz => by
    obtain ⟨y, hps, hy⟩ := hp 0 i x rfl
    cases ps with
    | nil => simp at hps
    | cons q ps =>
      simp at hps; subst hps
      simp only [evRow] at he
      split at he
      · rename_i c l hc hl'
        cases he
        simp only [litRow] at hs
        split at hs
        · rename_i hn
          have hcr := cells_sound hc (hx i x (by simp) y hy)
          have hput := hr.put hz hcr hn.1 hn.2
          obtain ⟨arr', h1, h2, h3, h4⟩ := fillRow_sound (parts := r) (ps := ps) (by simpa using hl) (fun k i x hk => by simpa using hp (k + 1) i x (by simpa using hk)) (fun i x hm => hx i x (by simp [hm])) hl' hs hput
            (by rw [fold_size, hz]; simp)
          refine ⟨arr', ?_, h2, h3, by rw [h4]; simp⟩
          have hcz : (a.eval x).cells.size = size := by rw [hcr.1]; exact hn.1
          have hbig : (i + 1) * size ≤ es.length * size := Nat.mul_le_mul_right _ (by omega)
          rw [Nat.add_mul] at hbig
          simp only [List.map_cons, Instr.fill, hcz]
          rw [if_neg (by simp; omega)]
          rw [← h1]
          congr 1
          rw [← Array.foldl_toList]
          simp
        · cases hs
      · cases he

theorem zeros_row {z : List LV} {zv : Array Value} (hz : CellsR G z zv) (len : Nat) (hpos : 0 < z.length) :
    rowOk G (madeCells zv (len * z.length)) (List.replicate len z) z.length := by
  refine ⟨fun e he => by rw [List.eq_of_mem_replicate he], fun i j c hc => ?_⟩
  unfold at2 at hc
  rw [List.getElem?_replicate] at hc
  split at hc
  · rename_i hi
    simp only [Option.bind_some] at hc
    obtain ⟨y, a1, a2, a3⟩ := hz.2 j c hc
    have hj := (List.getElem?_eq_some_iff.1 hc).1
    have hbig : (i + 1) * z.length ≤ len * z.length := Nat.mul_le_mul_right _ (by omega)
    rw [Nat.add_mul] at hbig
    refine ⟨y, ?_, a2, a3⟩
    have hs := hz.1
    have hlt : i * z.length + j < len * z.length := by omega
    simp only [madeCells, Array.getElem?_map, Array.getElem?_range, hlt, if_true, Option.map_some]
    rw [hs, Nat.mul_comm, Nat.mul_add_mod, Nat.mod_eq_of_lt hj]
    congr 1
    rw [getElem!_def, a1]
  · simp at hc

theorem rowPV_sized {n : Nat} : ∀ {es : List (List LV)} {qs : List (List PV)}, rowPV es = some qs → (∀ e ∈ es, e.length = n) → ∀ e ∈ qs, e.length = n
  | [], qs, h, _ => by simp only [rowPV] at h; cases h; simp
  | e :: r, qs, h, hs => by
    simp only [rowPV] at h
    split at h
    · rename_i q l hq hl
      cases h
      intro x hx
      rcases List.mem_cons.1 hx with rfl | hx
      · rw [toPVs_len hq]; exact hs e (by simp)
      · exact rowPV_sized hl (fun e he => hs e (by simp [he])) x hx
    · cases h

theorem run_mkrow {ty e : TypeId} {len : Nat} {parts : Array (Nat × Operand)} (ho : o.op = .buildSlice ty len parts) (hty : P.underlying ty = some (.slice e)) {i : TypeInfo} (hi : P.info? e = some i)
    {z : List LV} (hz : zeroOf P e = some z) {ps : List (Nat × LX)} (hps : compParts parts.toList = some ps) (h0 : 0 < i.size) (hbig : len * i.size ≤ 16777216) (hzl : z.length = i.size)
    {qs : List (Nat × List LV)} (hq : evRow t ps = some qs) {es : List (List LV)} (hes : litRow i.size (List.replicate len z) qs = some es) (hx : XsR G t a o.op) :
    ∃ arr' : Array Value, (execOp a.eval o).run P w = .ok (.value (.slice (some ⟨w.heap.size, 0, none⟩) len len)) (w.alloc (.cells arr' e)) ∧ arr'.size = es.length * i.size ∧ rowOk G arr' es i.size ∧ es.length = len := by
  obtain ⟨i', zv, hi', hzv, hzr⟩ := zeroOf_inv hz
  rw [hi] at hi'; cases hi'
  have hr0 := zeros_row (hzr G) len (by omega)
  rw [hzl] at hr0
  obtain ⟨g1, g2⟩ := compParts_get hps
  obtain ⟨arr', h1, h2, h3, h4⟩ := fillRow_sound (G := G) (t := t) (a := a) g1 g2
    (fun i x hm y hy => hx x (by rw [ho]; simp only [Op.operands, List.mem_toArray, List.mem_map]; exact ⟨(i, x), by simpa using hm, rfl⟩) y hy) hq hes hr0 (by rw [size_madeCells]; simp)
  have hel : es.length = len := by rw [h4]; simp
  have hrun : (execOp a.eval o).run P w = .ok (.value (.slice (some ⟨w.heap.size, 0, none⟩) len len)) (w.alloc (.cells arr' e)) := by
    have hzr' : ∀ w, (zeroValue e).run P w = .ok zv w := fun w => run_zeroValue hi hzv w
    have hmap : (parts.map fun (x : Nat × Operand) => (x.1, a.eval x.2)).toList = parts.toList.map fun (x : Nat × Operand) => (x.1, a.eval x.2) := by simp
    have hnb : ¬ (len * i.size > 2 ^ 24) := by omega
    by_cases hl0 : len = 0
    · have hparts : arr' = #[] := by
        have : arr'.size = 0 := by rw [h3, hel, hl0]; simp
        simpa using this
      subst hl0
      have hmc : madeCells zv.cells (0 * i.size) = #[] := by simp [madeCells]
      rw [hmc] at h1
      simp only [execOp, ho, Instr.buildSlice, Sem.run_bind, run_underlying hty, Result.andThen_ok, sizeOf, typeInfo, run_program, hi, Sem.run_pure, Sem.run_ite, hnb, if_false, Nat.zero_mul, if_true, hmap]
      simp only [Array.range_zero', Array.map_empty, h1, newRow, Sem.run_bind, Result.andThen_ok, Sem.run_pure]
      rfl
    · have hne : ¬ (len * i.size = 0) := by
        intro e; rcases Nat.mul_eq_zero.1 e with e | e <;> omega
      simp only [execOp, ho, Instr.buildSlice, Sem.run_bind, run_underlying hty, Result.andThen_ok, sizeOf, typeInfo, run_program, hi, Sem.run_pure, Sem.run_ite, hnb, if_false, hne, hzr', hmap]
      unfold madeCells at h1
      simp only [h1, newRow, Sem.run_bind, Result.andThen_ok, Sem.run_pure]
      rfl
  exact ⟨arr', hrun, h3, h2, hel⟩

theorem op_mkrow {ty e : TypeId} {len : Nat} {parts : Array (Nat × Operand)} (ho : o.op = .buildSlice ty len parts) (hty : P.underlying ty = some (.slice e)) {i : TypeInfo} (hi : P.info? e = some i)
    {z : List LV} (hz : zeroOf P e = some z) {ps : List (Nat × LX)} (hps : compParts parts.toList = some ps) (h0 : 0 < i.size) (hbig : len * i.size ≤ 16777216) (hzl : z.length = i.size)
    {qs : List (Nat × List LV)} (hq : evRow t ps = some qs) {es : List (List LV)} (hes : litRow i.size (List.replicate len z) qs = some es) (h : WR G st w) (hx : XsR G t a o.op) :
    OpTo P o a w (Good G st w (.rs st.length 0 len) (st ++ [.row es])) ∧ ∀ q, rowPV es = some q → OpTo P o a w (Good G st w (.tight q) st) := by
  obtain ⟨arr', hrun, h3, h2, hel⟩ := run_mkrow (w := w) ho hty hi hz hps h0 hbig hzl hq hes hx
  refine ⟨?_, fun q hq => ?_⟩
  · refine opTo_value hrun ?_
    have := good_newRow (v := .rs st.length 0 len) (u := .slice (some ⟨w.heap.size, 0, none⟩) len len) h es i.size es.length arr' e h3 (Nat.le_refl _) h2 (by
      have hh := VL.rs (G := G.addLoc st.length (.row w.heap.size i.size es.length)) (o := st.length) (off := 0) (len := len) (cap := len) (blk := w.heap.size) (size := i.size) (n := es.length) (by simp [Gh.addLoc])
        (by simp only [maxLen]; have : len ≤ len * i.size := Nat.le_mul_of_pos_right _ h0; omega) (Nat.le_refl _) (by omega)
      simpa using hh)
    exact this
  · obtain ⟨r1, r2⟩ := h.newF arr' e (0, 0)
    refine opTo_value hrun ⟨_, r1, ?_, r2⟩
    obtain ⟨q1, q2⟩ := rowPV_get hq
    have hql : q.length = len := by rw [q1, hel]
    rw [← hql]
    have hqs : ∀ e ∈ q, e.length = i.size := rowPV_sized hq h2.1
    refine .tight (VP.mk (size := i.size) (Nat.le_refl _) (by rw [hql]; simp only [maxLen]; have : len ≤ len * i.size := Nat.le_mul_of_pos_right _ h0; omega) hqs ?_)
    intro i' j p hp
    obtain ⟨x, hx1, hx2⟩ := q2 i' j p hp
    obtain ⟨y, a1, a2, _⟩ := h2.2 i' j x hx1
    refine ⟨y, ?_, (toPV_sound hx2 a2).mono (Gh.le_addF ..).F⟩
    simp only [Gh.addF]
    cases hg : G.F w.heap.size (0 + i' * i.size + j) with
    | some v => have := h.fr_lt hg; omega
    | none => simpa using a1

end ops
end Go.LS

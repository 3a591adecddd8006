/- A small semantics of loaded Go code that the kernel can run, part 3. -/
import Derived.Test.YtmbjojnldbeicaaLsG2
import Derived.Laws.StructEq
set_option linter.unusedVariables false
set_option linter.unusedSimpArgs false
namespace Go.LS
section ops
variable {P : Program} {G : Gh} {st st' : List LObj} {w : World} {t : List LV} {a : Act} {o : Oper} {v : LV}
theorem op_s2b {src dst e : TypeId} {x : Operand} (ho : o.op = .convert src dst x) (hs : P.underlying src = some .string) (hd : P.underlying dst = some (.slice e)) (he : P.underlying e = some (.int .u8))
  {y : LX} (hy : A3 x = some y) {l : List UInt8} (hv : y.ev t = .p (.str l)) (hl : l.length ≤ 140737488355328) (h : WR G st w) (hx : XsR G t a o.op) :
  B1 P o a w (Good G st w (.p (.sl (bs l))) st) := by
 have h1 := hx x (by rw [ho]; simp [Op.operands]) y hy
 rw [hv] at h1
 have hu := h1.str_inv
 have hrun := run_bytes_of_string (P := P) w src dst e ⟨l.toArray⟩ hs hd he
 rw [ba_size] at hrun
 generalize hcap : grownCap w l.length 0 e = cap at hrun
 have hge : l.length ≤ cap := by rw [← hcap]; exact grownCap_ge ..
 have hle : cap ≤ maxLen := by rw [← hcap]; exact grownCap_le_maxLen _ _ _ _ (by simp only [maxLen]; omega)
 have hw : WR G st w.drew := h.of_heap rfl
 obtain ⟨r1, r2⟩ := hw.newF (bytesRow ⟨l.toArray⟩ cap) e ((bytesRow ⟨l.toArray⟩ cap).size, (bytesRow ⟨l.toArray⟩ cap).size + 1)
 refine As (by simp only [execOp, ho, hu, Sem.run_bind, hrun, Result.andThen_ok, Sem.run_pure]; rfl) ⟨_, r1, .p ?_, (Ext.of_heap (w := w) (w' := w.drew) rfl rfl rfl rfl).trans r2⟩
 have hlen : l.length = (bs l).length := by simp [bs]
 rw [hlen]
 refine VP.mk (size := 1) (by rw [← hlen]; exact hge) hle (fun e he => by simp only [bs, List.mem_map] at he; obtain ⟨b, _, rfl⟩ := he; rfl) ?_
 intro i j p hp
 have hb := Fo (size := 1) (fun e he => by simp only [bs, List.mem_map] at he; obtain ⟨b, _, rfl⟩ := he; rfl) hp
 obtain rfl : j = 0 := by omega
 have hi : i < l.length := by rw [hlen]; exact hb.1
 simp only [at2, bs, List.getElem?_map, List.getElem?_eq_getElem hi, Option.map_some, Option.bind_some, List.getElem?_cons_zero, Option.some.injEq] at hp
 subst hp
 refine ⟨.int .u8 l[i].toNat, ?_, .int _ _⟩
 simp only [Gh.addF]
 cases hg : G.F w.heap.size (0 + i * 1 + 0) with
 | some v => have := h.fr_lt hg; omega
 | none =>
  simp [bytesRow, hi, Array.getElem?_append]
theorem Nm (vs : List Value) (off : Nat) : ∀ (k : Nat) (cells : Array Value) (i : Nat),
  ((vs.zipIdx k).foldl (fun cs (x : Value × Nat) => cs.setIfInBounds (off + x.2) x.1) cells)[i]? =
    if off + k ≤ i ∧ i < off + k + vs.length ∧ i < cells.size then vs[i - (off + k)]? else cells[i]? := by
 induction vs with
 | nil => intro k cells i; simp; omega
 | cons v vs ih =>
  intro k cells i
  rw [List.zipIdx_cons, List.foldl_cons, ih]
  simp only [Array.size_setIfInBounds, List.length_cons]
  by_cases h1 : off + (k + 1) ≤ i ∧ i < off + (k + 1) + vs.length ∧ i < cells.size
  ·rw [if_pos h1, if_pos (by omega)]
   rw [show i - (off + k) = (i - (off + (k + 1))) + 1 by omega]
   simp
  ·rw [if_neg h1]
   by_cases h2 : i = off + k
   ·subst h2
    by_cases h3 : off + k < cells.size
    ·rw [if_pos (by omega)]; simp [h3]
    ·rw [if_neg (by omega)]
     rw [Array.getElem?_eq_none (by simp; omega), Array.getElem?_eq_none (by omega)]
   ·rw [if_neg (by omega)]
    rw [Array.getElem?_setIfInBounds_ne (by omega)]
theorem O4 (vs : List Value) (off : Nat) : ∀ (k : Nat) (cells : Array Value), ((vs.zipIdx k).foldl (fun cs (x : Value × Nat) => cs.setIfInBounds (off + x.2) x.1) cells).size = cells.size := by
 induction vs with
 | nil => intro k cells; rfl
 | cons v vs ih => intro k cells; rw [List.zipIdx_cons, List.foldl_cons, ih]; simp
theorem CellsR.put {z cs : List LV} {arr vs : Array Value} (hz : CellsR G z arr) (hc : CellsR G cs vs) (off : Nat) (hl : off + cs.length ≤ z.length) :
  CellsR G (z.take off ++ cs ++ z.drop (off + cs.length)) (vs.toList.zipIdx.foldl (fun cs (x : Value × Nat) => cs.setIfInBounds (off + x.2) x.1) arr) := by
 refine ⟨by rw [O4, hz.1]; simp only [List.length_append, List.length_take, List.length_drop]; omega, fun i x hx => ?_⟩
 rw [Dq z cs off i hl] at hx
 rw [Nm vs.toList off 0 arr i]
 have h1 := hc.1
 have h2 := hz.1
 split at hx
 ·rename_i hi
  obtain ⟨y, a1, a2⟩ := hc.2 _ x hx
  refine ⟨y, ?_, a2⟩
  rw [if_pos ⟨by omega, by simp; omega, by omega⟩]
  simpa using a1
 ·rename_i hi
  obtain ⟨y, a1, a2⟩ := hz.2 i x hx
  refine ⟨y, ?_, a2⟩
  rw [if_neg (by simp; omega)]
  exact a1
theorem I4 (place : Nat → Option (Nat × Nat)) : ∀ {parts : List (Nat × Operand)} {ps : List (Nat × Nat × LX)} {qs : List (Nat × Nat × List LV)} {z cs : List LV} {arr : Array Value},
  ps.length = parts.length → (∀ (k i : Nat) x, parts[k]? = some (i, x) → ∃ off n y, ps[k]? = some (off, n, y) ∧ place i = some (off, n) ∧ A3 x = some y) →
  (∀ i x, (i, x) ∈ parts → ∀ y, A3 x = some y → VL G (y.ev t) (a.eval x)) → Et t ps = some qs → Fj z qs = some cs → CellsR G z arr →
  ∃ arr', Instr.fill place arr (parts.map fun p => (p.1, a.eval p.2)) = some arr' ∧ CellsR G cs arr'
 | [], ps, qs, z, cs, arr, hl, hp, hx, he, hs, hz => by
  obtain rfl : ps = [] := by simpa using hl
  simp only [Et] at he; cases he
  simp only [Fj] at hs; cases hs
  exact ⟨arr, rfl, hz⟩
 | (i, x) :: r, ps, qs, z, cs, arr, hl, hp, hx, he, hs, hz => by
  obtain ⟨off, n, y, hps, hpl, hy⟩ := hp 0 i x rfl
  cases ps with
  | nil => simp at hps
  | cons q ps =>
   simp at hps; subst hps
   simp only [Et] at he
   split at he
   ·rename_i c l hc hl'
    cases he
    simp only [Fj] at hs
    split at hs
    ·rename_i hn
     have hcr := Ee hc (hx i x (by simp) y hy)
     have hput := hz.put hcr off (by omega)
     rw [hn.1] at hput
     obtain ⟨arr', h1, h2⟩ := I4 place (parts := r) (ps := ps) (by simpa using hl) (fun k i x hk => by simpa using hp (k + 1) i x (by simpa using hk)) (fun i x hm => hx i x (by simp [hm])) hl' hs hput
     refine ⟨arr', ?_, h2⟩
     have hcz : (a.eval x).cells.size = n := by rw [hcr.1]; exact hn.1
     have hz1 := hz.1
     simp only [List.map_cons, Instr.fill, hpl, hcz]
     rw [if_neg (by simp; omega)]
     rw [← h1]
     congr 1
     rw [← Array.foldl_toList]
     simp
    ·cases hs
   ·cases he
theorem Hx {fs : Array Field} : ∀ {l : List (Nat × Operand)} {ps : List (Nat × Nat × LX)}, Er P fs l = some ps → ps.length = l.length ∧ ∀ (k i : Nat) x, l[k]? = some (i, x) →
  ∃ off n y, ps[k]? = some (off, n, y) ∧ (∃ f inf, fs[i]? = some f ∧ P.info? f.type = some inf ∧ off = f.offset ∧ n = inf.size) ∧ A3 x = some y
 | [], ps, h => by simp only [Er] at h; cases h; exact ⟨rfl, by simp⟩
 | (i, x) :: r, ps, h => by
  simp only [Er] at h
  split at h
  ·rename_i f y l hf hy hl
   split at h
   ·rename_i inf hi
    cases h
    obtain ⟨h1, h2⟩ := Hx hl
    refine ⟨by simp [h1], fun k i' x' hk => ?_⟩
    cases k with
    | zero => simp at hk; obtain ⟨rfl, rfl⟩ := hk; exact ⟨_, _, _, rfl, ⟨f, inf, hf, hi, rfl, rfl⟩, hy⟩
    | succ k => simpa using h2 k i' x' (by simpa using hk)
   ·cases h
  ·cases h
theorem Iy {size : Nat} : ∀ {l : List (Nat × Operand)} {ps : List (Nat × Nat × LX)}, Fe size l = some ps → ps.length = l.length ∧ ∀ (k i : Nat) x, l[k]? = some (i, x) →
  ∃ off n y, ps[k]? = some (off, n, y) ∧ (off = i * size ∧ n = size) ∧ A3 x = some y
 | [], ps, h => by simp only [Fe] at h; cases h; exact ⟨rfl, by simp⟩
 | (i, x) :: r, ps, h => by
  simp only [Fe] at h
  split at h
  ·rename_i y l hy hl
   cases h
   obtain ⟨h1, h2⟩ := Iy hl
   refine ⟨by simp [h1], fun k i' x' hk => ?_⟩
   cases k with
   | zero => simp at hk; obtain ⟨rfl, rfl⟩ := hk; exact ⟨_, _, _, rfl, ⟨rfl, rfl⟩, hy⟩
   | succ k => simpa using h2 k i' x' (by simpa using hk)
  ·cases h
theorem Fs {e : TypeId} {z : List LV} (h : Db P e = some z) : ∃ i zv, P.info? e = some i ∧ i.zero = some zv ∧ ∀ G, CellsR G z zv.cells := by
 unfold Db at h
 split at h
 ·rename_i i hi
  split at h
  ·rename_i zv hz
   exact ⟨i, zv, hi, hz, fun G => by have := Dc G h; simpa using this⟩
  ·cases h
 ·cases h
theorem T8 {fs : Array Field} (hall : Pw P fs = true) (w : World) :
  (fs.mapM fun f => (do pure (f.offset, ← sizeOf f.type) : Sem (Nat × Nat))).run P w = .ok (fs.map fun f => (f.offset, ((P.info? f.type).map (·.size)).getD 0)) w := by
 have hl : ∀ (l : List Field), (∀ f ∈ l, (P.info? f.type).isSome = true) → (l.mapM fun f => (do pure (f.offset, ← sizeOf f.type) : Sem (Nat × Nat))).run P w = .ok (l.map fun f => (f.offset, ((P.info? f.type).map (·.size)).getD 0)) w := by
  intro l hl
  induction l with
  | nil => simp [List.mapM_nil]
  | cons f r ih =>
   obtain ⟨i, hi⟩ := Option.isSome_iff_exists.1 (hl f (by simp))
   rw [List.mapM_cons]
   simp only [Sem.run_bind, sizeOf, typeInfo, run_program, Result.andThen_ok, hi, Sem.run_pure]
   have := ih (fun f hf => hl f (by simp [hf]))
   simp only [sizeOf, typeInfo] at this
   rw [this]
   simp [hi]
 have h := hl fs.toList (fun f hf => List.all_eq_true.1 hall f hf)
 obtain ⟨l⟩ := fs
 rw [List.mapM_toArray, ← bind_pure_comp]
 simp only [Sem.run_bind, h, Result.andThen_ok, Sem.run_pure]
 simp
theorem Ms {ty : TypeId} {parts : Array (Nat × Operand)} (ho : o.op = .build ty parts) {fs : Array Field} (hty : P.underlying ty = some (.struct fs)) (hall : Pw P fs = true)
  {z : List LV} (hz : Db P ty = some z) {ps : List (Nat × Nat × LX)} (hps : Er P fs parts.toList = some ps) {qs : List (Nat × Nat × List LV)} (hq : Et t ps = some qs)
  {cs : List LV} (hcs : Fj z qs = some cs) (h : WR G st w) (hx : XsR G t a o.op) : B1 P o a w (Good G st w (.agg cs) st) := by
 obtain ⟨i, zv, hi, hzv, hzr⟩ := Fs hz
 obtain ⟨g1, g2⟩ := Hx hps
 obtain ⟨arr', h1, h2⟩ := I4 (G := G) (t := t) (a := a) (fun k => (fs.map fun f => (f.offset, ((P.info? f.type).map (·.size)).getD 0))[k]?) g1
  (fun k i x hk => by
    obtain ⟨off, n, y, e1, ⟨f, inf, e2, e3, rfl, rfl⟩, e4⟩ := g2 k i x hk
    exact ⟨_, _, y, e1, by simp [e2, e3], e4⟩)
  (fun i x hm y hy => hx x (by rw [ho]; simp only [Op.operands, List.mem_toArray, List.mem_map]; exact ⟨(i, x), by simpa using hm, rfl⟩) y hy) hq hcs (hzr G)
 obtain ⟨arr2, hu, hc2⟩ := (⟨arr', rfl, h2⟩ : ∃ x, x = arr' ∧ CellsR G cs x)
 refine As (u := .agg arr') (w' := w) ?_ (.same h ?_)
 ·have hzr' : (zeroValue ty).run P w = .ok zv w := Cy hi hzv w
  have hmap : (parts.map fun (x : Nat × Operand) => (x.1, a.eval x.2)).toList = parts.toList.map fun (x : Nat × Operand) => (x.1, a.eval x.2) := by simp
  simp only [execOp, ho, Instr.build, Sem.run_bind, hzr', Result.andThen_ok, run_underlying hty]
  rw [T8 hall w]
  simp only [Result.andThen_ok, hmap, h1, Sem.run_pure]
 ·rcases Ev (agg := true) (v := .agg cs) h2 rfl with ⟨_, h⟩ | ⟨h, _⟩
  ·exact h
  ·cases h
end ops
end Go.LS
set_option linter.unusedVariables false
set_option linter.unusedSimpArgs false
namespace Go.LS
section ops
variable {P : Program} {G : Gh} {st st' : List LObj} {w : World} {t : List LV} {a : Act} {o : Oper} {v : LV}
theorem Nn {ty e : TypeId} {m : Nat} {parts : Array (Nat × Operand)} (ho : o.op = .build ty parts) (hty : P.underlying ty = some (.array m e)) {inf : TypeInfo} (hinf : P.info? e = some inf)
  {z : List LV} (hz : Db P ty = some z) {ps : List (Nat × Nat × LX)} (hps : Fe inf.size parts.toList = some ps) {qs : List (Nat × Nat × List LV)} (hq : Et t ps = some qs)
  {cs : List LV} (hcs : Fj z qs = some cs) (h : WR G st w) (hx : XsR G t a o.op) : B1 P o a w (Good G st w (.agg cs) st) := by
 obtain ⟨i, zv, hi, hzv, hzr⟩ := Fs hz
 obtain ⟨g1, g2⟩ := Iy hps
 obtain ⟨arr', h1, h2⟩ := I4 (G := G) (t := t) (a := a) (fun i => some (i * inf.size, inf.size)) g1
  (fun k i x hk => by
    obtain ⟨off, n, y, e1, ⟨rfl, rfl⟩, e4⟩ := g2 k i x hk
    exact ⟨_, _, y, e1, rfl, e4⟩)
  (fun i x hm y hy => hx x (by rw [ho]; simp only [Op.operands, List.mem_toArray, List.mem_map]; exact ⟨(i, x), by simpa using hm, rfl⟩) y hy) hq hcs (hzr G)
 refine As (u := .agg arr') (w' := w) ?_ (.same h ?_)
 ·have hzr' : (zeroValue ty).run P w = .ok zv w := Cy hi hzv w
  have hmap : (parts.map fun (x : Nat × Operand) => (x.1, a.eval x.2)).toList = parts.toList.map fun (x : Nat × Operand) => (x.1, a.eval x.2) := by simp
  simp only [execOp, ho, Instr.build, Sem.run_bind, hzr', Result.andThen_ok, run_underlying hty, sizeOf, typeInfo, run_program, hinf, Sem.run_pure, hmap, h1]
 ·rcases Ev (agg := true) (v := .agg cs) h2 rfl with ⟨_, h⟩ | ⟨h, _⟩
  ·exact h
  ·cases h
theorem rowOk.put {arr vs : Array Value} {es : List (List LV)} {size : Nat} (hr : rowOk G arr es size) (hz : arr.size = es.length * size) {cs : List LV} (hc : CellsR G cs vs) (hl : cs.length = size) {i : Nat} (hi : i < es.length) :
  rowOk G (vs.toList.zipIdx.foldl (fun cs (x : Value × Nat) => cs.setIfInBounds (i * size + x.2) x.1) arr) (es.set i cs) size := by
 have hbig : (i + 1) * size ≤ es.length * size := Nat.mul_le_mul_right _ (by omega)
 rw [Nat.add_mul] at hbig
 have hcz := hc.1
 refine ⟨fun e he => ?_, fun i' j c hc' => ?_⟩
 ·rcases List.mem_or_eq_of_mem_set he with he | rfl
  ·exact hr.1 e he
  ·exact hl
 ·by_cases hii : i' = i
  ·subst hii
   simp only [at2, List.getElem?_set_self hi, Option.bind_some] at hc'
   obtain ⟨y, a1, a2⟩ := hc.2 j c hc'
   have hj := (List.getElem?_eq_some_iff.1 hc').1
   refine ⟨y, ?_, a2⟩
   rw [Nm, if_pos ⟨by omega, by simp; omega, by omega⟩]
   simp only [Array.getElem?_toList]
   rw [← a1]; congr 1; omega
  ·have hc'' : at2 es i' j = some c := by simpa only [at2, List.getElem?_set_ne (Ne.symm hii)] using hc'
   obtain ⟨y, a1, a2⟩ := hr.2 i' j c hc''
   have hj := Fo hr.1 hc''
   refine ⟨y, ?_, a2⟩
   rw [Nm, if_neg]
   ·exact a1
   ·rintro ⟨b1, b2, _⟩
    simp at b2
    rcases Nat.lt_or_gt_of_ne hii with hlt | hgt
    ·have : (i' + 1) * size ≤ i * size := Nat.mul_le_mul_right _ hlt
     rw [Nat.add_mul] at this; omega
    ·have : (i + 1) * size ≤ i' * size := Nat.mul_le_mul_right _ hgt
     rw [Nat.add_mul] at this; omega
theorem Iz : ∀ {l : List (Nat × Operand)} {ps : List (Nat × LX)}, Ed l = some ps → ps.length = l.length ∧ ∀ (k i : Nat) x, l[k]? = some (i, x) → ∃ y, ps[k]? = some (i, y) ∧ A3 x = some y
 | [], ps, h => by simp only [Ed] at h; cases h; exact ⟨rfl, by simp⟩
 | (i, x) :: r, ps, h => by
  simp only [Ed] at h
  split at h
  ·rename_i y l hy hl
   cases h
   obtain ⟨h1, h2⟩ := Iz hl
   refine ⟨by simp [h1], fun k i' x' hk => ?_⟩
   cases k with
   | zero => simp at hk; obtain ⟨rfl, rfl⟩ := hk; exact ⟨_, rfl, hy⟩
   | succ k => simpa using h2 k i' x' (by simpa using hk)
  ·cases h
theorem I0 {size : Nat} : ∀ {parts : List (Nat × Operand)} {ps : List (Nat × LX)} {qs : List (Nat × List LV)} {es es' : List (List LV)} {arr : Array Value},
  ps.length = parts.length → (∀ (k i : Nat) x, parts[k]? = some (i, x) → ∃ y, ps[k]? = some (i, y) ∧ A3 x = some y) →
  (∀ i x, (i, x) ∈ parts → ∀ y, A3 x = some y → VL G (y.ev t) (a.eval x)) → Ho t ps = some qs → Hn size es qs = some es' → rowOk G arr es size → arr.size = es.length * size →
  ∃ arr', Instr.fill (fun i => some (i * size, size)) arr (parts.map fun p => (p.1, a.eval p.2)) = some arr' ∧ rowOk G arr' es' size ∧ arr'.size = es'.length * size ∧ es'.length = es.length
 | [], ps, qs, es, es', arr, hl, hp, hx, he, hs, hr, hz => by
  obtain rfl : ps = [] := by simpa using hl
  simp only [Ho] at he; cases he
  simp only [Hn] at hs; cases hs
  exact ⟨arr, rfl, hr, hz, rfl⟩
 | (i, x) :: r, ps, qs, es, es', arr, hl, hp, hx, he, hs, hr, hz => by
  obtain ⟨y, hps, hy⟩ := hp 0 i x rfl
  cases ps with
  | nil => simp at hps
  | cons q ps =>
   simp at hps; subst hps
   simp only [Ho] at he
   split at he
   ·rename_i c l hc hl'
    cases he
    simp only [Hn] at hs
    split at hs
    ·rename_i hn
     have hcr := Ee hc (hx i x (by simp) y hy)
     have hput := hr.put hz hcr hn.1 hn.2
     obtain ⟨arr', h1, h2, h3, h4⟩ := I0 (parts := r) (ps := ps) (by simpa using hl) (fun k i x hk => by simpa using hp (k + 1) i x (by simpa using hk)) (fun i x hm => hx i x (by simp [hm])) hl' hs hput
      (by rw [O4, hz]; simp)
     refine ⟨arr', ?_, h2, h3, by rw [h4]; simp⟩
     have hcz : (a.eval x).cells.size = size := by rw [hcr.1]; exact hn.1
     have hbig : (i + 1) * size ≤ es.length * size := Nat.mul_le_mul_right _ (by omega)
     rw [Nat.add_mul] at hbig
     simp only [List.map_cons, Instr.fill, hcz]
     rw [if_neg (by simp; omega)]
     rw [← h1]
     congr 1
     rw [← Array.foldl_toList]
     simp
    ·cases hs
   ·cases he
theorem In {z : List LV} {zv : Array Value} (hz : CellsR G z zv) (len : Nat) (hpos : 0 < z.length) :
  rowOk G (madeCells zv (len * z.length)) (List.replicate len z) z.length := by
 refine ⟨fun e he => by rw [List.eq_of_mem_replicate he], fun i j c hc => ?_⟩
 unfold at2 at hc
 rw [List.getElem?_replicate] at hc
 split at hc
 ·rename_i hi
  simp only [Option.bind_some] at hc
  obtain ⟨y, a1, a2, a3⟩ := hz.2 j c hc
  have hj := (List.getElem?_eq_some_iff.1 hc).1
  have hbig : (i + 1) * z.length ≤ len * z.length := Nat.mul_le_mul_right _ (by omega)
  rw [Nat.add_mul] at hbig
  refine ⟨y, ?_, a2, a3⟩
  have hs := hz.1
  have hlt : i * z.length + j < len * z.length := by omega
  simp only [madeCells, Array.getElem?_map, Array.getElem?_range, hlt, if_true, Option.map_some]
  rw [hs, Nat.mul_comm, Nat.mul_add_mod, Nat.mod_eq_of_lt hj]
  congr 1
  rw [getElem!_def, a1]
 ·simp at hc
theorem F5 {n : Nat} : ∀ {es : List (List LV)} {qs : List (List PV)}, E9 es = some qs → (∀ e ∈ es, e.length = n) → ∀ e ∈ qs, e.length = n
 | [], qs, h, _ => by simp only [E9] at h; cases h; simp
 | e :: r, qs, h, hs => by
  simp only [E9] at h
  split at h
  ·rename_i q l hq hl
   cases h
   intro x hx
   rcases List.mem_cons.1 hx with rfl | hx
   ·rw [K5 hq]; exact hs e (by simp)
   ·exact F5 hl (fun e he => hs e (by simp [he])) x hx
  ·cases h
theorem O5 {ty e : TypeId} {len : Nat} {parts : Array (Nat × Operand)} (ho : o.op = .buildSlice ty len parts) (hty : P.underlying ty = some (.slice e)) {i : TypeInfo} (hi : P.info? e = some i)
  {z : List LV} (hz : Db P e = some z) {ps : List (Nat × LX)} (hps : Ed parts.toList = some ps) (h0 : 0 < i.size) (hbig : len * i.size ≤ 16777216) (hzl : z.length = i.size)
  {qs : List (Nat × List LV)} (hq : Ho t ps = some qs) {es : List (List LV)} (hes : Hn i.size (List.replicate len z) qs = some es) (hx : XsR G t a o.op) :
  ∃ arr' : Array Value, (execOp a.eval o).run P w = .ok (.value (.slice (some ⟨w.heap.size, 0, none⟩) len len)) (w.alloc (.cells arr' e)) ∧ arr'.size = es.length * i.size ∧ rowOk G arr' es i.size ∧ es.length = len := by
 obtain ⟨i', zv, hi', hzv, hzr⟩ := Fs hz
 rw [hi] at hi'; cases hi'
 have hr0 := In (hzr G) len (by omega)
 rw [hzl] at hr0
 obtain ⟨g1, g2⟩ := Iz hps
 obtain ⟨arr', h1, h2, h3, h4⟩ := I0 (G := G) (t := t) (a := a) g1 g2
  (fun i x hm y hy => hx x (by rw [ho]; simp only [Op.operands, List.mem_toArray, List.mem_map]; exact ⟨(i, x), by simpa using hm, rfl⟩) y hy) hq hes hr0 (by rw [size_madeCells]; simp)
 have hel : es.length = len := by rw [h4]; simp
 have hrun : (execOp a.eval o).run P w = .ok (.value (.slice (some ⟨w.heap.size, 0, none⟩) len len)) (w.alloc (.cells arr' e)) := by
  have hzr' : ∀ w, (zeroValue e).run P w = .ok zv w := fun w => Cy hi hzv w
  have hmap : (parts.map fun (x : Nat × Operand) => (x.1, a.eval x.2)).toList = parts.toList.map fun (x : Nat × Operand) => (x.1, a.eval x.2) := by simp
  have hnb : ¬ (len * i.size > 2 ^ 24) := by omega
  by_cases hl0 : len = 0
  ·have hparts : arr' = #[] := by
    have : arr'.size = 0 := by rw [h3, hel, hl0]; simp
    simpa using this
   subst hl0
   have hmc : madeCells zv.cells (0 * i.size) = #[] := by simp [madeCells]
   rw [hmc] at h1
   simp only [execOp, ho, Instr.buildSlice, Sem.run_bind, run_underlying hty, Result.andThen_ok, sizeOf, typeInfo, run_program, hi, Sem.run_pure, Sem.run_ite, hnb, if_false, Nat.zero_mul, if_true, hmap]
   simp only [Array.range_zero', Array.map_empty, h1, newRow, Sem.run_bind, Result.andThen_ok, Sem.run_pure]
   rfl
  ·have hne : ¬ (len * i.size = 0) := by
    intro e; rcases Nat.mul_eq_zero.1 e with e | e <;> omega
   simp only [execOp, ho, Instr.buildSlice, Sem.run_bind, run_underlying hty, Result.andThen_ok, sizeOf, typeInfo, run_program, hi, Sem.run_pure, Sem.run_ite, hnb, if_false, hne, hzr', hmap]
   unfold madeCells at h1
   simp only [h1, newRow, Sem.run_bind, Result.andThen_ok, Sem.run_pure]
   rfl
 exact ⟨arr', hrun, h3, h2, hel⟩
theorem Zn {ty e : TypeId} {len : Nat} {parts : Array (Nat × Operand)} (ho : o.op = .buildSlice ty len parts) (hty : P.underlying ty = some (.slice e)) {i : TypeInfo} (hi : P.info? e = some i)
  {z : List LV} (hz : Db P e = some z) {ps : List (Nat × LX)} (hps : Ed parts.toList = some ps) (h0 : 0 < i.size) (hbig : len * i.size ≤ 16777216) (hzl : z.length = i.size)
  {qs : List (Nat × List LV)} (hq : Ho t ps = some qs) {es : List (List LV)} (hes : Hn i.size (List.replicate len z) qs = some es) (h : WR G st w) (hx : XsR G t a o.op) :
  B1 P o a w (Good G st w (.rs st.length 0 len) (st ++ [.row es])) ∧ ∀ q, E9 es = some q → B1 P o a w (Good G st w (.tight q) st) := by
 obtain ⟨arr', hrun, h3, h2, hel⟩ := O5 (w := w) ho hty hi hz hps h0 hbig hzl hq hes hx
 refine ⟨?_, fun q hq => ?_⟩
 ·refine As hrun ?_
  have := F4 (v := .rs st.length 0 len) (u := .slice (some ⟨w.heap.size, 0, none⟩) len len) h es i.size es.length arr' e h3 (Nat.le_refl _) h2 (by
   have hh := VL.rs (G := G.addLoc st.length (.row w.heap.size i.size es.length)) (o := st.length) (off := 0) (len := len) (cap := len) (blk := w.heap.size) (size := i.size) (n := es.length) (by simp [Gh.addLoc])
    (by simp only [maxLen]; have : len ≤ len * i.size := Nat.le_mul_of_pos_right _ h0; omega) (Nat.le_refl _) (by omega)
   simpa using hh)
  exact this
 ·obtain ⟨r1, r2⟩ := h.newF arr' e (0, 0)
  refine As hrun ⟨_, r1, ?_, r2⟩
  obtain ⟨q1, q2⟩ := Gi hq
  have hql : q.length = len := by rw [q1, hel]
  rw [← hql]
  have hqs : ∀ e ∈ q, e.length = i.size := F5 hq h2.1
  refine .tight (VP.mk (size := i.size) (Nat.le_refl _) (by rw [hql]; simp only [maxLen]; have : len ≤ len * i.size := Nat.le_mul_of_pos_right _ h0; omega) hqs ?_)
  intro i' j p hp
  obtain ⟨x, hx1, hx2⟩ := q2 i' j p hp
  obtain ⟨y, a1, a2, _⟩ := h2.2 i' j x hx1
  refine ⟨y, ?_, (Dx hx2 a2).mono (Gh.le_addF ..).F⟩
  simp only [Gh.addF]
  cases hg : G.F w.heap.size (0 + i' * i.size + j) with
  | some v => have := h.fr_lt hg; omega
  | none => simpa using a1
end ops
end Go.LS
set_option linter.unusedVariables false
set_option linter.unusedSimpArgs false
namespace Go.LS
section ops
variable {P : Program} {G : Gh} {st st' : List LObj} {w : World} {t : List LV} {a : Act} {o : Oper} {v : LV}
theorem L4 {ty e : TypeId} {l c : Operand} (ho : o.op = .makeSlice ty l c) (hty : P.underlying ty = some (.slice e)) {i : TypeInfo} (hi : P.info? e = some i)
  {z : List LV} (hz : Db P e = some z) {l' c' : LX} (hl' : A3 l = some l') (hc' : A3 c = some c') {m n : Int} (hm : (l'.ev t).asInt = some m) (hn : (c'.ev t).asInt = some n)
  (hc : 0 ≤ m ∧ m ≤ n ∧ n * i.bytes ≤ 281474976710656 ∧ n ≤ maxLen ∧ z.length = i.size ∧ 0 < i.size) (hx : XsR G t a o.op) :
  ∃ zv : Value, CellsR G z zv.cells ∧ (execOp a.eval o).run P w = .ok (.value (.slice (some ⟨w.heap.size, 0, none⟩) m.toNat n.toNat)) (w.alloc (.cells (madeCells zv.cells (n.toNat * i.size)) e)) := by
 have h1 := hx l (by rw [ho]; simp [Op.operands]) l' hl'
 have h2 := hx c (by rw [ho]; simp [Op.operands]) c' hc'
 obtain ⟨kl, ul⟩ := Ff hm h1
 obtain ⟨kc, uc⟩ := Ff hn h2
 obtain ⟨i', zv, hi', hzv, hzr⟩ := Fs hz
 rw [hi] at hi'; cases hi'
 obtain ⟨c1, c2, c3, c4, c5, c6⟩ := hc
 have hrun := run_make (P := P) w ty e i zv hty hi hzv kl kc m n c1 c2 (by rw [Int.mul_comm]; exact c3) (by have := c4; simp only [maxLen] at this; omega)
 have hrun' : (execOp a.eval o).run P w = .ok (.value (.slice (some ⟨w.heap.size, 0, none⟩) m.toNat n.toNat)) (w.alloc (.cells (madeCells zv.cells (n.toNat * i.size)) e)) := by
  simp only [execOp, ho, ul, uc, Sem.run_bind, hrun, Result.andThen_ok, Sem.run_pure]
 exact ⟨zv, hzr G, hrun'⟩
theorem No {ty e : TypeId} {l c : Operand} (ho : o.op = .makeSlice ty l c) (hty : P.underlying ty = some (.slice e)) {i : TypeInfo} (hi : P.info? e = some i)
  {z : List LV} (hz : Db P e = some z) {l' c' : LX} (hl' : A3 l = some l') (hc' : A3 c = some c') {m n : Int} (hm : (l'.ev t).asInt = some m) (hn : (c'.ev t).asInt = some n)
  (hc : 0 ≤ m ∧ m ≤ n ∧ n * i.bytes ≤ 281474976710656 ∧ n ≤ maxLen ∧ z.length = i.size ∧ 0 < i.size) (h : WR G st w) (hx : XsR G t a o.op)
  (hv : (m = 0 ∧ 0 < n ∧ v = .sl [] st.length 0 ∧ st' = st ++ [.spare i.size 0]) ∨ (m = n ∧ v = .rs st.length 0 m.toNat ∧ st' = st ++ [.row (List.replicate m.toNat z)])) :
  B1 P o a w (Good G st w v st') := by
 obtain ⟨zv, hzr, hrun'⟩ := L4 (w := w) ho hty hi hz hl' hc' hm hn hc hx
 obtain ⟨c1, c2, c3, c4, c5, c6⟩ := hc
 rcases hv with ⟨rfl, hp, rfl, rfl⟩ | ⟨rfl, rfl, rfl⟩
 ·obtain ⟨r1, r2⟩ := h.newSpare (madeCells zv.cells (n.toNat * i.size)) e i.size 0 n.toNat 0 (by rw [size_madeCells]; omega)
  refine As hrun' ⟨_, r1, ?_, r2⟩
  refine .sl (es := []) (size := i.size) ?_ (by simp) (by simp) ?_
  ·exact VP.mk (es := []) (size := i.size) (by simp) (by omega) (by simp) (fun i j p hp => by simp [at2] at hp)
  ·simp [Gh.addHist]
 ·refine As hrun' ?_
  have hr := In hzr m.toNat (by omega)
  rw [c5] at hr
  have hrow := F4 (v := .rs st.length 0 m.toNat) (u := .slice (some ⟨w.heap.size, 0, none⟩) m.toNat m.toNat) h (List.replicate m.toNat z) i.size m.toNat (madeCells zv.cells (m.toNat * i.size)) e
   (size_madeCells _ _) (by simp) hr (by
     have hh := VL.rs (G := G.addLoc st.length (.row w.heap.size i.size m.toNat)) (o := st.length) (off := 0) (len := m.toNat) (cap := m.toNat) (blk := w.heap.size) (size := i.size) (n := m.toNat) (by simp [Gh.addLoc])
      (by omega) (Nat.le_refl _) (by omega)
     simpa using hh)
  exact hrow
def KK.desc (kk : KK) (d : TypeDesc) : Prop :=
 match kk with
 | .int => ∃ k, d = .int k
 | .str => d = .string
 | .bool => d = .bool
theorem Io {kt : TypeId} {kk : KK} (h : Jy P kt = some kk) : ∃ d, P.underlying kt = some d ∧ kk.desc d := by
 unfold Jy at h
 split at h <;> cases h
 ·exact ⟨_, ‹_›, _, rfl⟩
 ·exact ⟨_, ‹_›, rfl⟩
 ·exact ⟨_, ‹_›, rfl⟩
theorem Dk {kt : TypeId} {kk : KK} {d : TypeDesc} (hd : P.underlying kt = some d) (hk : kk.desc d) (b : Bool) (u : Value) (w : World) : (Instr.checkKey b 10000 kt u).run P w = .ok () w := by
 rw [show (10000 : Nat) = 9999 + 1 from rfl, Instr.checkKey]
 rw [Sem.run_bind, run_underlying hd, Result.andThen_ok]
 cases kk
 ·obtain ⟨k, rfl⟩ := hk; rfl
 ·cases hk; rfl
 ·cases hk; rfl
theorem P1 (x y : List UInt8) : ((⟨x.toArray⟩ : ByteArray) == ⟨y.toArray⟩) = (x == y) := by
 show (x.toArray == y.toArray) = (x == y)
 simp
theorem Xs {F : Nat → Nat → Option Value} {kk : KK} {k j : PV} {u e : Value} (hk : kk.fits k = true) (h1 : VP F k u) (h2 : VP F j e) {b : Bool} (hp : Kx k j = some b) {d : TypeDesc} (hd : kk.desc d) :
  Instr.sameNow d u e = some b ∧ (b = true → k = j ∧ e = u ∧ ∀ n, Instr.sameBits (n + 1) e u = true) := by
 cases kk <;> cases k <;> simp [KK.fits] at hk
 ·cases h1
  cases j <;> simp [Kx] at hp
  cases h2
  obtain ⟨rfl, rfl⟩ := hp
  obtain ⟨kd, rfl⟩ := hd
  refine ⟨by simp [Instr.sameNow], fun hb => ?_⟩
  simp at hb; subst hb
  exact ⟨rfl, rfl, fun n => by simp [Instr.sameBits, P1]⟩
 ·cases h1
  cases j <;> simp [Kx] at hp
  cases h2
  subst hp
  cases hd
  refine ⟨by simp [Instr.sameNow, P1], fun hb => ?_⟩
  simp at hb; subst hb
  exact ⟨rfl, rfl, fun n => by simp [Instr.sameBits, P1]⟩
 ·cases h1
  cases j <;> simp [Kx] at hp
  cases h2
  subst hp
  cases hd
  refine ⟨by simp [Instr.sameNow], fun hb => ?_⟩
  simp at hb; subst hb
  exact ⟨rfl, rfl, fun n => by simp [Instr.sameBits, P1]⟩
theorem G5 {kk : KK} {k : PV} {u : Value} {d : TypeDesc} (hk : kk.fits k = true) (hd : kk.desc d) : ∀ {kv : List (PV × LV)} {es : List MapEntry} (i0 : Nat),
  VP G.F k u → es.length = kv.length → (∀ (i : Nat) j v, kv[i]? = some (j, v) → ∃ e, es[i]? = some e ∧ VP G.F j e.key ∧ VL G v e.val) →
  (∀ r, Hp k kv = some r → (∃ j v e, r = some v ∧ kv[j]? = some (k, v) ∧ es[j]? = some e ∧ Instr.findNow d u es i0 = some (some (i0 + j, e.val)) ∧ VL G v e.val) ∨ (r = none ∧ Instr.findNow d u es i0 = some none)) ∧
  (∀ v' kv', Ot k v' kv = some kv' → (∃ j v e, kv' = kv.set j (k, v') ∧ kv[j]? = some (k, v) ∧ es[j]? = some e ∧ e.key = u ∧ Instr.findNow d u es i0 = some (some (i0 + j, e.val)) ∧ ∀ n, Instr.sameBits (n + 1) e.key u = true) ∨
    (kv' = kv ++ [(k, v')] ∧ Instr.findNow d u es i0 = some none)) ∧
  (∀ kv', Rh k kv = some kv' → (∃ j e, kv' = kv.eraseIdx j ∧ es[j]? = some e ∧ j < kv.length ∧ Instr.findNow d u es i0 = some (some (i0 + j, e.val))) ∨ (kv' = kv ∧ Instr.findNow d u es i0 = some none))
 | [], es, i0, hu, hl, he => by
  obtain rfl : es = [] := by simpa using hl
  refine ⟨fun r hr => ?_, fun v' kv' hr => ?_, fun kv' hr => ?_⟩
  ·simp only [Hp] at hr; cases hr; exact .inr ⟨rfl, rfl⟩
  ·simp only [Ot] at hr; cases hr; exact .inr ⟨rfl, rfl⟩
  ·simp only [Rh] at hr; cases hr; exact .inr ⟨rfl, rfl⟩
 | (j, v) :: kv, es, i0, hu, hl, he => by
  obtain ⟨e, h0, h1, h2⟩ := he 0 j v rfl
  cases es with
  | nil => simp at h0
  | cons e' es =>
   simp at h0; subst h0
   obtain ⟨r1, r2, r3⟩ := G5 (kk := kk) hk hd (kv := kv) (es := es) (i0 + 1) hu (by simpa using hl) (fun i j v hi => by simpa using he (i + 1) j v (by simpa using hi))
   cases hp : Kx k j with
   | none => exact ⟨fun r hr => by simp [Hp, hp] at hr, fun v' kv' hr => by simp [Ot, hp] at hr, fun kv' hr => by simp [Rh, hp] at hr⟩
   | some b =>
    obtain ⟨s1, s2⟩ := Xs hk hu h1 hp hd
    cases b with
    | true =>
     obtain ⟨rfl, hek, hsb⟩ := s2 rfl
     have hf : Instr.findNow d u (e' :: es) i0 = some (some (i0, e'.val)) := by simp [Instr.findNow, s1]
     refine ⟨fun r hr => ?_, fun v' kv' hr => ?_, fun kv' hr => ?_⟩
     ·simp [Hp, hp] at hr; subst hr
      exact .inl ⟨0, v, e', rfl, rfl, rfl, hf, h2⟩
     ·simp [Ot, hp] at hr; subst hr
      exact .inl ⟨0, v, e', rfl, rfl, rfl, hek, hf, hsb⟩
     ·simp [Rh, hp] at hr; subst hr
      exact .inl ⟨0, e', rfl, rfl, by simp, hf⟩
    | false =>
     have hf : Instr.findNow d u (e' :: es) i0 = Instr.findNow d u es (i0 + 1) := by simp [Instr.findNow, s1]
     rw [hf]
     refine ⟨fun r hr => ?_, fun v' kv' hr => ?_, fun kv' hr => ?_⟩
     ·simp only [Hp, hp] at hr
      rcases r1 r hr with ⟨q, x, e, a1, a2, a3, a4, a5⟩ | ⟨a1, a2⟩
      ·exact .inl ⟨q + 1, x, e, a1, by simpa using a2, by simpa using a3, by rw [a4]; congr 3; omega, a5⟩
      ·exact .inr ⟨a1, a2⟩
     ·simp only [Ot, hp] at hr
      split at hr
      ·rename_i l hl'
       cases hr
       rcases r2 v' l hl' with ⟨q, x, e, a1, a2, a3, a4, a5, a6⟩ | ⟨a1, a2⟩
       ·exact .inl ⟨q + 1, x, e, by rw [a1]; rfl, by simpa using a2, by simpa using a3, a4, by rw [a5]; congr 3; omega, a6⟩
       ·exact .inr ⟨by rw [a1]; rfl, a2⟩
      ·cases hr
     ·simp only [Rh, hp] at hr
      split at hr
      ·rename_i l hl'
       cases hr
       rcases r3 l hl' with ⟨q, e, a1, a2, a3, a4⟩ | ⟨a1, a2⟩
       ·exact .inl ⟨q + 1, e, by rw [a1]; rfl, by simpa using a2, by simpa using a3, by rw [a4]; congr 3; omega⟩
       ·exact .inr ⟨by rw [a1], a2⟩
      ·cases hr
theorem Dy {kt : TypeId} {d : TypeDesc} (hd : P.underlying kt = some d) {u : Value} {es : List MapEntry} {r : Option (Nat × Value)} (h : Instr.findNow d u es 0 = some r) (w : World) :
  (Instr.findKey kt u es).run P w = .ok r w := by
 simp [Instr.findKey, run_underlying hd, h]
theorem I5 {es : Array MapEntry} {kv : List (PV × LV)} (h : mapOk G es kv) : es.toList.length = kv.length ∧ ∀ (i : Nat) j v, kv[i]? = some (j, v) → ∃ e, es.toList[i]? = some e ∧ VP G.F j e.key ∧ VL G v e.val :=
 ⟨by simpa using h.1, fun i j v hi => by simpa using h.2 i j v hi⟩
theorem O6 {ty kt e : TypeId} {x i : Operand} {ok : Bool} (ho : o.op = .lookup ty x i ok) (hty : P.underlying ty = some (.map kt e)) {inf : TypeInfo} (hi : P.info? e = some inf) {z : Value} (hz : inf.zero = some z)
  {zv : LV} (hzv : Jx z = some zv) {kk : KK} (hkk : Jy P kt = some kk) {x' i' : LX} (hx' : A3 x = some x') (hi' : A3 i = some i') {k : PV} (hk : (i'.ev t).toPV = some k) (hf : kk.fits k = true)
  {r : Option LV} (hr : (x'.ev t = .p .nilm ∧ r = none) ∨ ∃ q kv, x'.ev t = .mp q ∧ st[q]? = some (.map kv) ∧ Hp k kv = some r)
  (h : WR G st w) (hx : XsR G t a o.op) : B1 P o a w (Good G st w (if ok then .tup [r.getD zv, .p (.bool r.isSome)] else r.getD zv) st) := by
 have h1 := hx x (by rw [ho]; simp [Op.operands]) x' hx'
 have h2 := Dx hk (hx i (by rw [ho]; simp [Op.operands]) i' hi')
 obtain ⟨d, hd, hkd⟩ := Io hkk
 have hzr : (zeroValue e).run P w = .ok z w := Cy hi hz w
 have fin : ∀ (u : Value), VL G (r.getD zv) u → (Instr.lookup ty (a.eval x) (a.eval i) ok).run P w = .ok (if ok then .tuple #[u, .bool r.isSome] else u) w → B1 P o a w (Good G st w (if ok then .tup [r.getD zv, .p (.bool r.isSome)] else r.getD zv) st) := by
  intro u hu hrun
  refine As (u := if ok then .tuple #[u, .bool r.isSome] else u) (w' := w) (by simp only [execOp, ho, Sem.run_bind, hrun, Result.andThen_ok, Sem.run_pure]) (.same h ?_)
  cases ok
  ·exact hu
  ·refine .tup _ rfl ?_
   intro n y hy
   match n, hy with
   | 0, hy => simp at hy; subst hy; exact hu
   | 1, hy => simp at hy; subst hy; exact .p (.bool _)
 rcases hr with ⟨e1, rfl⟩ | ⟨q, kv, e1, hst, hm⟩
 ·rw [e1] at h1
  refine fin z (Eu G hzv) ?_
  have hfk : (Instr.findKey kt (a.eval i) []).run P w = .ok none w := Dy hd rfl w
  simp [Instr.lookup, run_underlying hty, h1.nilm_inv, Dk hd hkd, hfk, hzr]
 ·rw [e1] at h1
  obtain ⟨blk, hl, hu⟩ := h1.mp_inv
  obtain ⟨blk', e3, es, c, hb, hmo, hstp⟩ := h.map q kv hst _ hl
  cases e3
  obtain ⟨m1, m2⟩ := I5 hmo
  have hfs := (G5 (kk := kk) hf hkd 0 h2 m1 m2).1 r hm
  rcases hfs with ⟨j, v, e', rfl, _, _, hfn, hvl⟩ | ⟨rfl, hfn⟩
  ·refine fin e'.val hvl ?_
   have hfk := Dy (P := P) hd hfn w
   simp [Instr.lookup, run_underlying hty, hu, getObj, Sem.run, hb, Dk hd hkd, hfk]
  ·refine fin z (Eu G hzv) ?_
   have hfk := Dy (P := P) hd hfn w
   simp [Instr.lookup, run_underlying hty, hu, getObj, Sem.run, hb, Dk hd hkd, hfk, hzr]
theorem Ka {ty kt e : TypeId} {m k x : Operand} (ho : o.op = .mapUpdate ty m k x ∨ o.op = .insert ty m k x) (hty : P.underlying ty = some (.map kt e))
  {kk : KK} (hkk : Jy P kt = some kk) {m' k' x' : LX} (hm' : A3 m = some m') (hk' : A3 k = some k') (hx' : A3 x = some x') {q : Nat} (hq : m'.ev t = .mp q) {kp : PV} (hk : (k'.ev t).toPV = some kp) (hf : kk.fits kp = true)
  {kv kv' : List (PV × LV)} (hst : st[q]? = some (.map kv)) (hset : Ot kp (x'.ev t) kv = some kv')
  (h : WR G st w) (hx : XsR G t a o.op) : B1 P o a w (Good G st w (.tup []) (st.set q (.map kv'))) := by
 have h1 := hx m (by rcases ho with ho | ho <;> rw [ho] <;> simp [Op.operands]) m' hm'
 have h2 := Dx hk (hx k (by rcases ho with ho | ho <;> rw [ho] <;> simp [Op.operands]) k' hk')
 have h3 := hx x (by rcases ho with ho | ho <;> rw [ho] <;> simp [Op.operands]) x' hx'
 obtain ⟨d, hd, hkd⟩ := Io hkk
 rw [hq] at h1
 obtain ⟨blk, hl, hu⟩ := h1.mp_inv
 obtain ⟨blk', e3, es, c, hb, hmo, hstp⟩ := h.map q kv hst _ hl
 cases e3
 obtain ⟨m1, m2⟩ := I5 hmo
 have hlt := Bq hb
 have fin : ∀ (es' : Array MapEntry) (c' : Nat), mapOk G es' kv' → Stamps es' c' → (Instr.mapUpdate ty (a.eval m) (a.eval k) (a.eval x)).run P w = .ok () { w with heap := w.heap.setIfInBounds blk (.map es' c') } →
   B1 P o a w (Good G st w (.tup []) (st.set q (.map kv'))) := by
  intro es' c' hmk hst2 hrun
  obtain ⟨r1, r2⟩ := h.setObj hst hl (x' := .map kv') (ob := .map es' c') (.inr (.inl ⟨kv, kv', es', c', rfl, rfl, rfl, rfl, hmk, hst2⟩)) (Hw w blk (.map es' c')) (by simp [hlt])
  refine O1 ?_ ⟨G, r1, .unit G, r2⟩
  rcases ho with ho | ho <;> simp only [execOp, ho, Sem.run_bind, hrun, Result.andThen_ok, Sem.run_pure]
 have hfs := (G5 (kk := kk) hf hkd 0 h2 m1 m2).2.1 _ _ hset
 rcases hfs with ⟨j, v, e', rfl, hj1, hj2, hek, hfn, hsb⟩ | ⟨rfl, hfn⟩
 ·have hfk := Dy (P := P) hd hfn w
  have hj2' : es[j]? = some e' := by simpa using hj2
  have hjl := (Array.getElem?_eq_some_iff.1 hj2').1
  refine fin (es.modify j fun e => { e with key := a.eval k, val := a.eval x }) c ?_ (hstp.modify j _ (fun _ => rfl)) ?_
  ·refine ⟨by simp [hmo.1], fun i kq vq hi => ?_⟩
   by_cases hij : i = j
   ·subst hij
    rw [List.getElem?_set_self (by rw [← hmo.1]; exact hjl)] at hi
    cases hi
    exact ⟨_, by rw [Array.getElem?_modify, if_pos rfl, hj2']; rfl, h2, h3⟩
   ·rw [List.getElem?_set_ne (Ne.symm hij)] at hi
    obtain ⟨e2, a1, a2, a3⟩ := hmo.2 i kq vq hi
    exact ⟨e2, by rw [Array.getElem?_modify, if_neg (Ne.symm hij)]; exact a1, a2, a3⟩
  ·have hst' : (Instr.keyThatStays (((es[0 + j]?).map (·.key)).getD (a.eval k)) (a.eval k)).run P w = .ok (a.eval k) w := by
    rw [Nat.zero_add, hj2']
    have := hsb 9999
    simp only [Option.map_some, Option.getD_some, Instr.keyThatStays]
    rw [if_pos this]; rfl
   rw [Nat.zero_add] at hfk hst'
   simp only [Instr.mapUpdate, Sem.run_bind, run_underlying hty, hu, Result.andThen_ok, getObj, Sem.run, hb, Dk hd hkd, hfk, hst', setObj]
 ·have hfk := Dy (P := P) hd hfn w
  refine fin (es.push { key := a.eval k, val := a.eval x, born := c }) (c + 1) ?_ (hstp.push _ rfl) ?_
  ·refine ⟨by simp [hmo.1], fun i kq vq hi => ?_⟩
   rcases Bd hi with ⟨hlt', hi⟩ | ⟨rfl, e2⟩
   ·obtain ⟨e2, a1, a2, a3⟩ := hmo.2 i kq vq hi
    exact ⟨e2, by rw [Array.getElem?_push, if_neg (by rw [hmo.1]; omega)]; exact a1, a2, a3⟩
   ·cases e2
    exact ⟨{ key := a.eval k, val := a.eval x, born := c }, by rw [← hmo.1]; simp, h2, h3⟩
  ·simp only [Instr.mapUpdate, Sem.run_bind, run_underlying hty, hu, Result.andThen_ok, getObj, Sem.run, hb, Dk hd hkd, hfk, setObj]
theorem Xt {ty u kt e : TypeId} {m k : Operand} (ho : o.op = .call { callee := .builtin .delete, args := #[m, k], argTypes := #[ty, u] }) (hty : P.underlying ty = some (.map kt e))
  {kk : KK} (hkk : Jy P kt = some kk) {m' k' : LX} (hm' : A3 m = some m') (hk' : A3 k = some k') {q : Nat} (hq : m'.ev t = .mp q) {kp : PV} (hk : (k'.ev t).toPV = some kp) (hf : kk.fits kp = true)
  {kv kv' : List (PV × LV)} (hst : st[q]? = some (.map kv)) (hset : Rh kp kv = some kv')
  (h : WR G st w) (hx : XsR G t a o.op) : B1 P o a w (Good G st w (.tup []) (st.set q (.map kv'))) := by
 have h1 := hx m (by rw [ho]; simp [Op.operands, Call.operands]) m' hm'
 have h2 := Dx hk (hx k (by rw [ho]; simp [Op.operands, Call.operands]) k' hk')
 obtain ⟨d, hd, hkd⟩ := Io hkk
 rw [hq] at h1
 obtain ⟨blk, hl, hu⟩ := h1.mp_inv
 obtain ⟨blk', e3, es, c, hb, hmo, hstp⟩ := h.map q kv hst _ hl
 cases e3
 obtain ⟨m1, m2⟩ := I5 hmo
 have hlt := Bq hb
 have fin : ∀ (es' : Array MapEntry) (c' : Nat), mapOk G es' kv' → Stamps es' c' → (Builtin.delete_ #[ty, u] o.type #[a.eval m, a.eval k]).run P w = .ok (.tuple #[]) { w with heap := w.heap.setIfInBounds blk (.map es' c') } →
   B1 P o a w (Good G st w (.tup []) (st.set q (.map kv'))) := by
  intro es' c' hmk hst2 hrun
  obtain ⟨r1, r2⟩ := h.setObj hst hl (x' := .map kv') (ob := .map es' c') (.inr (.inl ⟨kv, kv', es', c', rfl, rfl, rfl, rfl, hmk, hst2⟩)) (Hw w blk (.map es' c')) (by simp [hlt])
  refine As (u := .tuple #[]) ?_ ⟨G, r1, .unit G, r2⟩
  simp [execOp, ho, resolve, invoke, builtin, hrun]
 have hfs := (G5 (kk := kk) hf hkd 0 h2 m1 m2).2.2 _ hset
 rcases hfs with ⟨j, e', rfl, hj2, hjl, hfn⟩ | ⟨rfl, hfn⟩
 ·have hfk := Dy (P := P) hd hfn w
  have hj2' : es[j]? = some e' := by simpa using hj2
  have hjl' := (Array.getElem?_eq_some_iff.1 hj2').1
  refine fin (es.eraseIdxIfInBounds j) c ?_ (hstp.erase j) ?_
  ·have hel : (es.eraseIdxIfInBounds j).toList = es.toList.eraseIdx j := by simp [Array.eraseIdxIfInBounds, hjl']
   refine ⟨?_, fun i kq vq hi => ?_⟩
   ·rw [← Array.length_toList, hel, List.length_eraseIdx, List.length_eraseIdx]
    simp [hmo.1]
   ·rw [← Array.getElem?_toList, hel]
    rw [List.getElem?_eraseIdx] at hi ⊢
    split at hi
    ·rename_i hij
     obtain ⟨e2, a1, a2, a3⟩ := hmo.2 i kq vq hi
     exact ⟨e2, by rw [if_pos hij]; simpa using a1, a2, a3⟩
    ·rename_i hij
     obtain ⟨e2, a1, a2, a3⟩ := hmo.2 (i + 1) kq vq hi
     exact ⟨e2, by rw [if_neg hij]; simpa using a1, a2, a3⟩
  ·rw [Nat.zero_add] at hfk
   simp only [Builtin.delete_, List.getElem?_toArray, List.getElem?_cons_zero, List.getElem?_cons_succ, Sem.run_bind, run_underlying hty, hu, Result.andThen_ok, getObj, Sem.run, hb, Dk hd hkd, hfk, setObj, Sem.run_pure]
 ·have hfk := Dy (P := P) hd hfn w
  refine fin es c hmo hstp ?_
  simp only [Builtin.delete_, List.getElem?_toArray, List.getElem?_cons_zero, List.getElem?_cons_succ, Sem.run_bind, run_underlying hty, hu, Result.andThen_ok, getObj, Sem.run, hb, Dk hd hkd, hfk, setObj, Sem.run_pure]
end ops
end Go.LS
set_option linter.unusedVariables false
set_option linter.unusedSimpArgs false
namespace Go.LS
def T9 (G : Gh) (o : Nat) : Prop := G.loc o ≠ none ∨ ∃ f, G.hist o f ≠ none
theorem VL.real {G : Gh} {v : LV} {u : Value} (h : VL G v u) : ∀ q ∈ v.refs, T9 G q := by
 induction h with
 | und => intro q hq; simp [LV.refs] at hq
 | anyb => intro q hq; simp [LV.refs] at hq
 | p => intro q hq; simp [LV.refs] at hq
 | tight => intro q hq; simp [LV.refs] at hq
 | pin => intro q hq; simp [LV.refs] at hq
 | sl h1 h2 h3 h4 => intro q hq; simp [LV.refs] at hq; subst hq; exact .inr ⟨_, by rw [h4]; simp⟩
 | gr h1 h2 h3 => intro q hq; simp [LV.refs] at hq; subst hq; exact .inr ⟨_, by rw [h3]; simp⟩
 | ptr h => intro q hq; simp [LV.refs] at hq; subst hq; exact .inl (by rw [h]; simp)
 | rs h => intro q hq; simp [LV.refs] at hq; subst hq; exact .inl (by rw [h]; simp)
 | mp h => intro q hq; simp [LV.refs] at hq; subst hq; exact .inl (by rw [h]; simp)
 | it h => intro q hq; simp [LV.refs] at hq; subst hq; exact .inl (by rw [h]; simp)
 | fn f vf vc s1 s2 hf hc ih1 ih2 =>
  intro q hq
  simp only [LV.refs, LV.refsL_eq, List.mem_append, List.mem_flatMap] at hq
  rcases hq with ⟨x, hx, hq⟩ | ⟨x, hx, hq⟩
  ·obtain ⟨i, hi⟩ := List.getElem?_of_mem hx; exact ih1 i x hi q hq
  ·obtain ⟨i, hi⟩ := List.getElem?_of_mem hx; exact ih2 i x hi q hq
 | ifc t _ ih => intro q hq; exact ih q (by simpa [LV.refs] using hq)
 | agg vs s1 s2 _ ih =>
  intro q hq
  simp only [LV.refs, LV.refsL_eq, List.mem_flatMap] at hq
  obtain ⟨x, hx, hq⟩ := hq
  obtain ⟨i, hi⟩ := List.getElem?_of_mem hx; exact ih i x hi q hq
 | tup vs s1 _ ih =>
  intro q hq
  simp only [LV.refs, LV.refsL_eq, List.mem_flatMap] at hq
  obtain ⟨x, hx, hq⟩ := hq
  obtain ⟨i, hi⟩ := List.getElem?_of_mem hx; exact ih i x hi q hq
theorem WR.real_refs {G : Gh} {st : List LObj} {w : World} (h : WR G st w) {o : Nat} (ho : T9 G o) : ∀ q ∈ ((st[o]?).getD .dead).refs, T9 G q := by
 intro q hq
 cases hs : st[o]? with
 | none => simp [hs, LObj.refs] at hq
 | some x =>
  simp only [hs, Option.getD_some] at hq
  have hloc : (∀ n hw, x ≠ .spare n hw) → ∃ l, G.loc o = some l := by
   intro hx
   rcases ho with ho | ⟨f, ho⟩
   ·exact Option.ne_none_iff_exists'.1 ho
   ·exact (ho (h.kind o x hs hx f)).elim
  cases x with
  | dead => simp [LObj.refs] at hq
  | spare n hw => simp [LObj.refs] at hq
  | siter s p => simp [LObj.refs] at hq
  | row es =>
   obtain ⟨l, hl⟩ := hloc (by intros; simp)
   obtain ⟨blk, size, n, rfl, arr, ty, _, _, _, hr⟩ := h.row o es hs l hl
   simp only [LObj.refs, List.mem_flatMap] at hq
   obtain ⟨e, he, c, hc, hq⟩ := hq
   obtain ⟨i, hi⟩ := List.getElem?_of_mem he
   obtain ⟨j, hj⟩ := List.getElem?_of_mem hc
   obtain ⟨u, _, hv, _⟩ := hr.2 i j c (by simp [at2, hi, hj])
   exact hv.real q hq
  | map kv =>
   obtain ⟨l, hl⟩ := hloc (by intros; simp)
   obtain ⟨blk, rfl, es, c, _, hm, _⟩ := h.map o kv hs l hl
   simp only [LObj.refs, List.mem_flatMap] at hq
   obtain ⟨⟨k, v⟩, he, hq⟩ := hq
   obtain ⟨i, hi⟩ := List.getElem?_of_mem he
   obtain ⟨u, _, _, hv⟩ := hm.2 i k v hi
   exact hv.real q hq
theorem I6 {G : Gh} {st : List LObj} {w : World} (h : WR G st w) : ∀ (n : Nat) (todo acc : List Nat), (∀ o ∈ todo, T9 G o) → (∀ o ∈ acc, T9 G o) → ∀ o ∈ Eo st n todo acc, T9 G o
 | 0, todo, acc, h1, h2 => by simpa [Eo] using h2
 | n + 1, [], acc, h1, h2 => by simpa [Eo] using h2
 | n + 1, o :: todo, acc, h1, h2 => by
  simp only [Eo]
  split
  ·exact I6 h n todo acc (fun q hq => h1 q (by simp [hq])) h2
  ·refine I6 h n _ _ ?_ ?_
   ·intro q hq
    rcases List.mem_append.1 hq with hq | hq
    ·exact h.real_refs (h1 o (by simp)) q hq
    ·exact h1 q (by simp [hq])
   ·intro q hq
    rcases List.mem_append.1 hq with hq | hq
    ·exact h2 q hq
    ·simp at hq; subst hq; exact h1 q (by simp)
def Gh.pull (G : Gh) (ids : List Nat) : Gh := { F := G.F, loc := fun j => (ids[j]?).bind G.loc, hist := fun j f => (ids[j]?).bind fun o => G.hist o f }
theorem I7 {st : List LObj} {ids : List Nat} (h : Eb st ids = true) : ∀ o ∈ ids, o < st.length ∧ ∀ q ∈ ((st[o]?).getD .dead).refs, q ∈ ids := by
 intro o ho
 have := List.all_eq_true.1 h o ho
 simp only [Bool.and_eq_true, decide_eq_true_eq, List.all_eq_true] at this
 exact ⟨this.1, fun q hq => by simpa using this.2 q hq⟩
theorem M3 {G : Gh} {ids : List Nat} {q : Nat} (hq : q ∈ ids) : (G.pull ids).loc (ids.idxOf q) = G.loc q ∧ ∀ f, (G.pull ids).hist (ids.idxOf q) f = G.hist q f := by
 have : ids[ids.idxOf q]? = some q := by
  rw [List.getElem?_eq_getElem (List.idxOf_lt_length_of_mem hq)]
  simp
 simp [Gh.pull, this]
theorem VL.pull {G : Gh} {ids : List Nat} {v : LV} {u : Value} (h : VL G v u) (hr : ∀ q ∈ v.refs, q ∈ ids) : VL (G.pull ids) (v.ren fun q => ids.idxOf q) u :=
 VL.ren (G := G) (G' := G.pull ids) (fun _ _ _ h => h) _ h (fun o ho l hl => by rw [(M3 (hr o ho)).1]; exact hl) (fun o ho f s hs => by rw [(M3 (hr o ho)).2]; exact hs)
theorem K7 {st : List LObj} {ids : List Nat} (hc : Eb st ids = true) {j : Nat} {x : LObj} (h : (sub st ids)[j]? = some x) :
  ∃ o y, ids[j]? = some o ∧ o ∈ ids ∧ st[o]? = some y ∧ x = y.ren (fun q => ids.idxOf q) := by
 simp only [sub, List.getElem?_map] at h
 cases hi : ids[j]? with
 | none => simp [hi] at h
 | some o =>
  simp [hi] at h
  have hm := List.mem_of_getElem? hi
  have hlt := (I7 hc o hm).1
  refine ⟨o, st[o], rfl, hm, by simp [hlt], ?_⟩
  rw [← h]; simp [hlt]
theorem sub_get {st : List LObj} {ids : List Nat} {j o : Nat} {y : LObj} (hi : ids[j]? = some o) (hy : st[o]? = some y) : (sub st ids)[j]? = some (y.ren fun q => ids.idxOf q) := by
 simp [sub, hi, hy]
theorem at2_map {es : List (List LV)} {r : Nat → Nat} {i j : Nat} {c : LV} (h : at2 (es.map fun e => e.map (LV.ren r)) i j = some c) : ∃ d, at2 es i j = some d ∧ c = d.ren r := by
 unfold at2 at h ⊢
 rw [List.getElem?_map] at h
 cases hi : es[i]? with
 | none => simp [hi] at h
 | some e =>
  simp only [hi, Option.map_some, Option.bind_some, List.getElem?_map] at h ⊢
  cases hj : e[j]? with
  | none => simp [hj] at h
  | some d => simp [hj] at h; exact ⟨d, rfl, h.symm⟩
theorem mem_at2 {es : List (List LV)} {i j : Nat} {c : LV} {q : Nat} (h : at2 es i j = some c) (hq : q ∈ c.refs) : q ∈ (LObj.row es).refs := by
 unfold at2 at h
 cases hi : es[i]? with
 | none => simp [hi] at h
 | some e =>
  simp [hi] at h
  simp only [LObj.refs, List.mem_flatMap]
  exact ⟨e, List.mem_of_getElem? hi, c, List.mem_of_getElem? h, hq⟩
theorem rowOk.ren {G G' : Gh} {r : Nat → Nat} {arr : Array Value} {es : List (List LV)} {size : Nat} (h : rowOk G arr es size)
  (hv : ∀ i j c, at2 es i j = some c → ∀ u, VL G c u → VL G' (c.ren r) u) : rowOk G' arr (es.map fun e => e.map (LV.ren r)) size := by
 refine ⟨fun e he => ?_, fun i j c hc => ?_⟩
 ·obtain ⟨e', he', rfl⟩ := List.mem_map.1 he; simp [h.1 e' he']
 ·obtain ⟨d, hd, rfl⟩ := at2_map hc
  obtain ⟨u, a1, a2, a3⟩ := h.2 i j d hd
  exact ⟨u, a1, hv i j d hd u a2, a3⟩
theorem mapOk.ren {G G' : Gh} {r : Nat → Nat} {es : Array MapEntry} {kv : List (PV × LV)} (h : mapOk G es kv) (hF : ∀ b o v, G.F b o = some v → G'.F b o = some v)
  (hv : ∀ (i : Nat) k c, kv[i]? = some (k, c) → ∀ u, VL G c u → VL G' (c.ren r) u) : mapOk G' es (kv.map fun x => (x.1, x.2.ren r)) := by
 refine ⟨by simp [h.1], fun i k v hi => ?_⟩
 rw [List.getElem?_map] at hi
 cases hx : kv[i]? with
 | none => simp [hx] at hi
 | some x =>
  obtain ⟨k', c⟩ := x
  simp [hx] at hi
  obtain ⟨rfl, rfl⟩ := hi
  obtain ⟨e, a1, a2, a3⟩ := h.2 i k' c hx
  exact ⟨e, a1, a2.mono hF, hv i k' c hx _ a3⟩
theorem P2 {kv : List (PV × LV)} {i : Nat} {k : PV} {c : LV} {q : Nat} (h : kv[i]? = some (k, c)) (hq : q ∈ c.refs) : q ∈ (LObj.map kv).refs := by
 simp only [LObj.refs, List.mem_flatMap]
 exact ⟨(k, c), List.mem_of_getElem? h, hq⟩
theorem Gj {G : Gh} {st : List LObj} {ids : List Nat} (hc : Eb st ids = true) {j b : Nat} (h : Owns (G.pull ids) (sub st ids) j b) : ∃ o, ids[j]? = some o ∧ Owns G st o b := by
 unfold Owns at h
 cases hs : (sub st ids)[j]? with
 | none => rw [hs] at h; exact h.elim
 | some x =>
  obtain ⟨o, y, hi, hm, hy, rfl⟩ := K7 hc hs
  rw [hs] at h
  refine ⟨o, hi, ?_⟩
  unfold Owns
  rw [hy]
  cases y <;> simp_all [LObj.ren, Gh.pull]
theorem WR.pull {G : Gh} {st : List LObj} {w : World} (h : WR G st w) {ids : List Nat} (hc : Eb st ids = true) (hn : ids.Nodup) : WR (G.pull ids) (sub st ids) w := by
 have hcl := I7 hc
 have hlen : (sub st ids).length = ids.length := by simp [sub]
 have hloc : ∀ j o, ids[j]? = some o → (G.pull ids).loc j = G.loc o := fun j o hi => by simp [Gh.pull, hi]
 have hhist : ∀ j o f, ids[j]? = some o → (G.pull ids).hist j f = G.hist o f := fun j o f hi => by simp [Gh.pull, hi]
 refine ⟨h.fr, ?_, ?_, ?_, ?_, ?_, ?_, ?_, ?_⟩
 ·intro j hj
  rw [hlen] at hj
  simp [Gh.pull, List.getElem?_eq_none hj]
 ·intro j es hs l hl
  obtain ⟨o, y, hi, hm, hy, e⟩ := K7 hc hs
  cases y <;> simp only [LObj.ren, reduceCtorEq, LObj.row.injEq] at e
  rename_i es0
  subst e
  rw [hloc j o hi] at hl
  obtain ⟨blk, size, n, e, arr, ty, hb, r1, r2, r3⟩ := h.row o es0 hy l hl
  refine ⟨blk, size, n, e, arr, ty, hb, r1, by simpa using r2, r3.ren fun i j c hcc u hv => hv.pull fun q hq => (hcl o hm).2 q ?_⟩
  rw [hy]; exact mem_at2 hcc hq
 ·intro j kv hs l hl
  obtain ⟨o, y, hi, hm, hy, e⟩ := K7 hc hs
  cases y <;> simp only [LObj.ren, reduceCtorEq, LObj.map.injEq] at e
  rename_i kv0
  subst e
  rw [hloc j o hi] at hl
  obtain ⟨blk, e, es, c, hb, r, rst⟩ := h.map o kv0 hy l hl
  refine ⟨blk, e, es, c, hb, r.ren (fun _ _ _ h => h) (fun i k c hcc u hv => hv.pull fun q hq => (hcl o hm).2 q ?_), rst⟩
  rw [hy]; exact P2 hcc hq
 ·intro j s p hs l hl
  obtain ⟨o, y, hi, hm, hy, e⟩ := K7 hc hs
  cases y <;> simp only [LObj.ren, reduceCtorEq, LObj.siter.injEq] at e
  obtain ⟨rfl, rfl⟩ := e
  rw [hloc j o hi] at hl
  exact h.iter o _ _ hy l hl
 ·intro j n hw hs
  obtain ⟨o, y, hi, hm, hy, e⟩ := K7 hc hs
  cases y <;> simp only [LObj.ren, reduceCtorEq, LObj.spare.injEq] at e
  obtain ⟨rfl, rfl⟩ := e
  obtain ⟨h1, h2⟩ := h.spare o _ _ hy
  exact ⟨fun f hf => by rw [hhist j o f hi]; exact h1 f hf, fun s hs => h2 s (by rw [hhist j o _ hi] at hs; exact hs)⟩
 ·intro j j' b h1 h2
  obtain ⟨o, hi, ho⟩ := Gj hc h1
  obtain ⟨o', hi', ho'⟩ := Gj hc h2
  have := h.uniq o o' b ho ho'
  subst this
  have hlt := (List.getElem?_eq_some_iff.1 hi).1
  exact (List.getElem?_inj hlt hn).1 (hi.trans hi'.symm)
 ·intro j b h1 h2 off
  obtain ⟨o, hi, ho⟩ := Gj hc h1
  refine h.ownF o b ho (fun ⟨n, k, e⟩ => h2 ⟨n, k, ?_⟩) off
  rw [sub_get hi e]; rfl
 ·intro j x hs hx f
  obtain ⟨o, y, hi, hm, hy, rfl⟩ := K7 hc hs
  rw [hhist j o f hi]
  refine h.kind o y hy (fun n k e => ?_) f
  subst e
  exact hx n k rfl
theorem Np {G0 G : Gh} {st0 st : List LObj} {w0 w : World} (h : WR G st w) (hx : Ext0 G0 st0 w0 G st w) (hd : ∀ o, st0.length ≤ o → G0.loc o = none ∧ ∀ f, G0.hist o f = none)
  {vs vs' : List LV} {st' : List LObj} (hg : gc st0.length vs st = some (vs', st')) {us : List Value} (hl : us.length = vs.length) (hv : ∀ (i : Nat) v u, vs[i]? = some v → us[i]? = some u → VL G v u) :
  ∃ G', WR G' st' w ∧ Ext0 G0 st0 w0 G' st' w ∧ vs'.length = vs.length ∧ ∀ (i : Nat) v u, vs'[i]? = some v → us[i]? = some u → VL G' v u := by
 unfold gc at hg
 generalize hids : Js st0.length st (vs.flatMap LV.refs) = ids at hg
 simp only at hg
 split at hg
 ·rename_i hcond
  cases hg
  simp only [Bool.and_eq_true, decide_eq_true_eq, List.all_eq_true, List.contains_iff_mem] at hcond
  obtain ⟨⟨⟨c1, c2⟩, c3⟩, c4⟩ := hcond
  have hk : ∀ o, o < st0.length → ids[o]? = some o := by
   intro o ho
   have := congrArg (fun l : List Nat => l[o]?) c4
   simp only [List.getElem?_take, ho, if_true, List.getElem?_range ho] at this
   exact this
  refine ⟨G.pull ids, h.pull c1 c3, ⟨⟨hx.le.F, ?_, ?_⟩, hx.os, hx.tape, hx.output, hx.hsz, hx.unch, ?_, hx.newF⟩, by simp, ?_⟩
  ·intro o l hl
   have ho : o < st0.length := by
    rcases Nat.lt_or_ge o st0.length with h' | h'
    ·exact h'
    ·rw [(hd o h').1] at hl; cases hl
   simp only [Gh.pull, hk o ho, Option.bind_some]
   exact hx.le.loc o l hl
  ·intro o f s hs
   have ho : o < st0.length := by
    rcases Nat.lt_or_ge o st0.length with h' | h'
    ·exact h'
    ·rw [(hd o h').2 f] at hs; cases hs
   simp only [Gh.pull, hk o ho, Option.bind_some]
   exact hx.le.hist o f s hs
  ·intro j b ho hb
   obtain ⟨o, _, ho⟩ := Gj c1 ho
   exact hx.own o b ho hb
  ·intro i v u hi hu
   rw [List.getElem?_map] at hi
   cases hq : vs[i]? with
   | none => simp [hq] at hi
   | some x =>
    simp [hq] at hi; subst hi
    refine (hv i x u hq hu).pull fun q hqq => c2 q ?_
    simp only [List.mem_flatMap]
    exact ⟨x, List.mem_of_getElem? hq, hqq⟩
 ·cases hg
end Go.LS
set_option linter.unusedVariables false
set_option linter.unusedSimpArgs false
namespace Go.LS
def Ei (P : Program) (call : CallF) : Prop := ∀ f args st res st', call f args st = some (res, st') → Fa P f = true ∧ ∀ G w us, WR G st w → ArgsR G args us →
 Calls P f us w fun e w' => ∃ u G', e = .returned u ∧ WR G' st' w' ∧ VL G' res u ∧ Ext0 G st w G' st' w'
def src (ids : List Nat) (n o : Nat) : Option Nat := if o ∈ ids then some (ids.idxOf o) else if o < n then none else some (ids.length + (o - n))
def Gh.push (G G1 : Gh) (ids : List Nat) (n : Nat) : Gh :=
 { F := G1.F, loc := fun o => match src ids n o with | some j => G1.loc j | none => G.loc o, hist := fun o f => match src ids n o with | some j => G1.hist j f | none => G.hist o f }
theorem Zo {ids : List Nat} {n : Nat} (hn : ids.Nodup) (hlt : ∀ o ∈ ids, o < n) (j : Nat) : src ids n (Bb ids n j) = some j := by
 unfold Bb
 split
 ·rename_i h
  unfold src
  rw [if_pos (List.getElem_mem _)]
  congr 1
  exact List.Nodup.idxOf_getElem hn j h
 ·rename_i h
  unfold src
  have h1 : ¬ (n + (j - ids.length) ∈ ids) := fun hm => by have := hlt _ hm; omega
  rw [if_neg h1, if_neg (by omega)]
  congr 1; omega
theorem Ua {ids : List Nat} {n q : Nat} (hq : q ∈ ids) : Bb ids n (ids.idxOf q) = q := by
 unfold Bb
 rw [dif_pos (List.idxOf_lt_length_of_mem hq)]
 simp
theorem Wf {ids : List Nat} {n o j : Nat} (hn : ids.Nodup) (hlt : ∀ o ∈ ids, o < n) (h : src ids n o = some j) : o = Bb ids n j := by
 unfold src at h
 split at h
 ·rename_i hm; cases h; exact (Ua hm).symm
 ·split at h
  ·cases h
  ·rename_i h1 h2
   cases h
   unfold Bb
   rw [dif_neg (by omega)]
   omega
theorem Hy : ∀ (st : List LObj) (ids : List Nat) (xs : List LObj), (Di st ids xs).length = st.length
 | st, [], xs => by cases xs <;> rfl
 | st, o :: ids, [] => rfl
 | st, o :: ids, x :: r => by simp [Di, Hy]
theorem Ge : ∀ (st : List LObj) (ids : List Nat) (xs : List LObj) (o : Nat), o ∉ ids → (Di st ids xs)[o]? = st[o]?
 | st, [], xs, o, h => by cases xs <;> rfl
 | st, q :: ids, [], o, h => rfl
 | st, q :: ids, x :: r, o, h => by
  simp only [Di]
  rw [Ge _ ids r o (fun hm => h (by simp [hm])), List.getElem?_set_ne (fun e => h (by simp [e]))]
theorem Nq : ∀ (st : List LObj) (ids : List Nat) (xs : List LObj), ids.Nodup → ids.length = xs.length → (∀ o ∈ ids, o < st.length) → ∀ o ∈ ids, (Di st ids xs)[o]? = xs[ids.idxOf o]?
 | st, [], xs, _, _, _, o, h => by simp at h
 | st, q :: ids, [], _, hl, _, o, h => by simp at hl
 | st, q :: ids, x :: r, hn, hl, hlt, o, h => by
  simp only [Di]
  have hn' := List.nodup_cons.1 hn
  by_cases e : o = q
  ·subst e
   rw [Ge _ ids r o hn'.1, List.getElem?_set_self (hlt o (by simp))]
   simp
  ·have hm : o ∈ ids := by rcases List.mem_cons.1 h with h | h; · exact (e h).elim
                           ·exact h
   rw [Nq _ ids r hn'.2 (by simpa using hl) (fun o ho => by simpa using hlt o (by simp [ho])) o hm]
   rw [List.idxOf_cons]
   have : (q == o) = false := by simpa using Ne.symm e
   rw [this]
   simp
theorem Ub {st : List LObj} {ids : List Nat} {st1 : List LObj} (hn : ids.Nodup) (hlt : ∀ o ∈ ids, o < st.length) (hk : ids.length ≤ st1.length) (o : Nat) :
  (Di st ids ((st1.take ids.length).map (LObj.ren (Bb ids st.length))) ++ (st1.drop ids.length).map (LObj.ren (Bb ids st.length)))[o]? =
    match src ids st.length o with
    | some j => (st1[j]?).map (LObj.ren (Bb ids st.length))
    | none => st[o]? := by
 have hpl := Hy st ids ((st1.take ids.length).map (LObj.ren (Bb ids st.length)))
 unfold src
 split
 ·rename_i j hj
  split at hj
  ·rename_i hm
   cases hj
   rw [List.getElem?_append_left (by rw [hpl]; exact hlt o hm), Nq st ids _ hn (by simp; omega) hlt o hm, List.getElem?_map, List.getElem?_take, if_pos (List.idxOf_lt_length_of_mem hm)]
  ·rename_i hm
   split at hj
   ·cases hj
   ·cases hj
    rw [List.getElem?_append_right (by rw [hpl]; omega), hpl, List.getElem?_map, List.getElem?_drop]
 ·rename_i hj
  split at hj
  ·cases hj
  ·rename_i hm
   split at hj
   ·rename_i ho
    rw [List.getElem?_append_left (by rw [hpl]; exact ho), Ge _ _ _ _ hm]
   ·cases hj
theorem VL.weak1 {G : Gh} {v : LV} {u : Value} (h : VL G v u) : VL G v.weak1 u := by
 cases h with
 | sl h _ _ _ => exact .p h
 | tight h => exact .p h
 | und => exact .und _
 | anyb b => exact .anyb b
 | p h => exact .p h
 | gr a b c => exact .gr a b c
 | ptr h => exact .ptr h
 | pin a b c => exact .pin a b c
 | rs a b c d => exact .rs a b c d
 | mp h => exact .mp h
 | it h => exact .it h
 | fn f a b c d e g => exact .fn f a b c d e g
 | ifc t h => exact .ifc t h
 | agg a b c d => exact .agg a b c d
 | tup a b c => exact .tup a b c
theorem VL.weak {G : Gh} {v : LV} {u : Value} (h : VL G v u) : VL G v.weak u := by
 cases v
 case agg cs =>
  cases h with
  | agg vs h1 h2 h3 =>
   refine .agg vs (by simp [h1]) h2 (fun i x hx => ?_)
   rw [List.getElem?_map] at hx
   cases hy : cs[i]? with
   | none => simp [hy] at hx
   | some y => simp [hy] at hx; subst hx; exact (h3 i y hy).weak1
 all_goals exact h.weak1
theorem Zp (b : Bool) (args : List LV) : (wk b args).length = args.length := by cases b <;> simp [wk]
theorem ArgsR.wk {G : Gh} {args : List LV} {us : Array Value} (h : ArgsR G args us) (b : Bool) : ArgsR G (wk b args) us := by
 cases b
 ·exact h
 ·refine ⟨by rw [Zp]; exact h.1, fun i v hv => ?_⟩
  simp only [LS.wk, List.getElem?_map] at hv
  cases hy : args[i]? with
  | none => simp [hy] at hv
  | some y => simp [hy] at hv; subst hv; exact (h.2 i y hy).weak
theorem Ou {P : Program} {call : CallF} (hok : Ei P call) {f : FuncId} {args : List LV} {st st' : List LObj} {res : LV} (hc : Cx call f args st = some (res, st')) : Fa P f = true := by
 unfold Cx at hc
 simp only at hc
 split at hc
 case isFalse => cases hc
 split at hc
 case h_2 => cases hc
 rename_i r st1 hcall
 exact (hok _ _ _ _ _ hcall).1
theorem Ov {P : Program} {call : CallF} (hok : Ei P call) {f : FuncId} {args : List LV} {st st' : List LObj} {res : LV} (hc : Cx call f args st = some (res, st'))
  {G : Gh} {w : World} {us : Array Value} (h : WR G st w) (ha : ArgsR G args us) :
  Calls P f us w fun e w' => ∃ u, e = .returned u ∧ Good G st w res st' u w' := by
 unfold Cx at hc
 replace ha := ha.wk (call.weak f)
 simp only at hc
 generalize wk (call.weak f) args = args at hc ha
 generalize hids : Eo st 100000 (args.flatMap LV.refs) [] = ids at hc
 split at hc
 case isFalse => cases hc
 rename_i hcond
 simp only [Bool.and_eq_true, decide_eq_true_eq, List.all_eq_true, List.contains_iff_mem] at hcond
 obtain ⟨⟨c1, c2⟩, hn⟩ := hcond
 split at hc
 case h_2 => cases hc
 rename_i r st1 hcall
 split at hc
 case isFalse => cases hc
 rename_i hk
 cases hc
 have hcl := I7 c1
 have hlt : ∀ o ∈ ids, o < st.length := fun o ho => (hcl o ho).1
 have hreal : ∀ o ∈ ids, T9 G o := by
  rw [← hids]
  refine I6 h _ _ _ ?_ (by simp)
  intro q hq
  obtain ⟨v, hv, hq⟩ := List.mem_flatMap.1 hq
  obtain ⟨i, hi⟩ := List.getElem?_of_mem hv
  exact (ha.2 i v hi).real q hq
 have hargs : ArgsR (G.pull ids) (args.map (LV.ren fun q => ids.idxOf q)) us := by
  refine ⟨by simp [ha.1], fun i x hi => ?_⟩
  rw [List.getElem?_map] at hi
  cases hq : args[i]? with
  | none => simp [hq] at hi
  | some v =>
   simp [hq] at hi; subst hi
   exact (ha.2 i v hq).pull fun q hqq => c2 q (by simp only [List.mem_flatMap]; exact ⟨v, List.mem_of_getElem? hq, hqq⟩)
 refine ((hok _ _ _ _ _ hcall).2 _ _ _ (h.pull c1 hn) hargs).mono fun e w' ⟨u, G1, he, hw1, hv1, hx1⟩ => ⟨u, he, ?_⟩
 generalize hb : Bb ids st.length = b
 have hG' : ∀ o, (G.push G1 ids st.length).loc o = match src ids st.length o with | some j => G1.loc j | none => G.loc o := fun o => rfl
 have hH' : ∀ o f, (G.push G1 ids st.length).hist o f = match src ids st.length o with | some j => G1.hist j f | none => G.hist o f := fun o f => rfl
 have hbk : ∀ j, src ids st.length (b j) = some j := fun j => by rw [← hb]; exact Zo hn hlt j
 have hren : ∀ {v : LV} {u : Value}, VL G1 v u → VL (G.push G1 ids st.length) (v.ren b) u := fun {v u} hv =>
  VL.ren (G := G1) (G' := G.push G1 ids st.length) (fun _ _ _ h => h) b hv (fun o _ l hl => by rw [hG', hbk]; exact hl) (fun o _ f s hs => by rw [hH', hbk]; exact hs)
 have hidx : ∀ {o : Nat}, o ∈ ids → ids[ids.idxOf o]? = some o := fun {o} ho => by rw [List.getElem?_eq_getElem (List.idxOf_lt_length_of_mem ho)]; simp
 have hle : G.le (G.push G1 ids st.length) := by
  refine ⟨hx1.le.F, fun o l hl => ?_, fun o f s hs => ?_⟩
  ·rw [hG']
   split
   ·rename_i j hj
    unfold src at hj
    split at hj
    ·rename_i hm; cases hj; exact hx1.le.loc _ _ (by rw [(M3 hm).1]; exact hl)
    ·split at hj
     ·cases hj
     ·rw [(h.dom o (by omega)).1] at hl; cases hl
   ·exact hl
  ·rw [hH']
   split
   ·rename_i j hj
    unfold src at hj
    split at hj
    ·rename_i hm; cases hj; exact hx1.le.hist _ _ _ (by rw [(M3 hm).2]; exact hs)
    ·split at hj
     ·cases hj
     ·rw [(h.dom o (by omega)).2 f] at hs; cases hs
   ·exact hs
 have hget : ∀ o, (Di st ids ((st1.take ids.length).map (LObj.ren b)) ++ (st1.drop ids.length).map (LObj.ren b))[o]? = match src ids st.length o with | some j => (st1[j]?).map (LObj.ren b) | none => st[o]? :=
  fun o => by rw [← hb]; exact Ub hn hlt hk o
 generalize hst' : Di st ids ((st1.take ids.length).map (LObj.ren b)) ++ (st1.drop ids.length).map (LObj.ren b) = st' at hget
 have hlen' : st'.length = st.length + (st1.length - ids.length) := by rw [← hst']; simp [Hy]
 -- who owns what
 have hown : ∀ o c, Owns (G.push G1 ids st.length) st' o c → (∃ j, src ids st.length o = some j ∧ Owns G1 st1 j c) ∨ (src ids st.length o = none ∧ Owns G st o c) := by
  intro o c ho
  unfold Owns at ho
  rw [hget o] at ho
  simp only [hG', hH'] at ho
  cases hs : src ids st.length o with
  | none =>
   rw [hs] at ho
   exact .inr ⟨rfl, ho⟩
  | some j =>
   refine .inl ⟨j, rfl, ?_⟩
   rw [hs] at ho
   unfold Owns
   cases hq : st1[j]? with
   | none => simp [hq] at ho
   | some y => cases y <;> simp_all [LObj.ren]
 have hsub : ∀ j c, Owns (G.pull ids) (sub st ids) j c → ∃ o ∈ ids, Owns G st o c := fun j c hj => by
  obtain ⟨o, hi, ho⟩ := Gj c1 hj; exact ⟨o, List.mem_of_getElem? hi, ho⟩
 -- an object that the call did not meet
 have hfar : ∀ o c, src ids st.length o = none → Owns G st o c → c < w.heap.size ∧ ∀ j, ¬ Owns (G.pull ids) (sub st ids) j c := by
  intro o c hs ho
  refine ⟨h.owns_lt ho, fun j hj => ?_⟩
  obtain ⟨o', hm, ho'⟩ := hsub j c hj
  have := h.uniq o o' c ho ho'
  subst this
  unfold src at hs
  rw [if_pos hm] at hs
  cases hs
 have hheap : ∀ o c, src ids st.length o = none → Owns G st o c → w'.heap[c]? = w.heap[c]? := fun o c hs ho => let ⟨a, b⟩ := hfar o c hs ho; hx1.unch c a b
 have hcross : ∀ o c j, src ids st.length o = none → Owns G st o c → ¬ Owns G1 st1 j c := by
  intro o c j hs ho hj
  obtain ⟨a, b⟩ := hfar o c hs ho
  obtain ⟨j', hj'⟩ := hx1.own j c hj a
  exact b j' hj'
 have hwr : WR (G.push G1 ids st.length) st' w' := by
  refine ⟨hw1.fr, ?_, ?_, ?_, ?_, ?_, ?_, ?_, ?_⟩
  ·intro o ho
   rw [hlen'] at ho
   have hs : src ids st.length o = some (ids.length + (o - st.length)) := by
    unfold src
    rw [if_neg (fun hm => by have := hlt o hm; omega), if_neg (by omega)]
   simp only [hG', hH', hs]
   exact hw1.dom _ (by omega)
  ·intro o es ho l hl
   rw [hget o] at ho
   rw [hG'] at hl
   cases hs : src ids st.length o with
   | some j =>
    rw [hs] at ho hl
    simp only at ho hl
    cases hq : st1[j]? with
    | none => simp [hq] at ho
    | some y =>
     simp only [hq, Option.map_some, Option.some.injEq] at ho
     cases y <;> simp only [LObj.ren, reduceCtorEq, LObj.row.injEq] at ho
     subst ho
     obtain ⟨blk, size, n, e, arr, ty, hbb, r1, r2, r3⟩ := hw1.row j _ hq l hl
     exact ⟨blk, size, n, e, arr, ty, hbb, r1, by simpa using r2, r3.ren fun i j c _ u hv => hren hv⟩
   | none =>
    rw [hs] at ho hl
    simp only at ho hl
    obtain ⟨blk, size, n, e, arr, ty, hbb, r1, r2, r3⟩ := h.row o es ho l hl
    have how : Owns G st o blk := by unfold Owns; rw [ho]; exact ⟨size, n, e ▸ hl⟩
    exact ⟨blk, size, n, e, arr, ty, by rw [hheap o blk hs how]; exact hbb, r1, r2, r3.mono hle⟩
  ·intro o kv ho l hl
   rw [hget o] at ho
   rw [hG'] at hl
   cases hs : src ids st.length o with
   | some j =>
    rw [hs] at ho hl
    simp only at ho hl
    cases hq : st1[j]? with
    | none => simp [hq] at ho
    | some y =>
     simp only [hq, Option.map_some, Option.some.injEq] at ho
     cases y <;> simp only [LObj.ren, reduceCtorEq, LObj.map.injEq] at ho
     subst ho
     obtain ⟨blk, e, es, c, hbb, r⟩ := hw1.map j _ hq l hl
     exact ⟨blk, e, es, c, hbb, r.1.ren (fun _ _ _ h => h) (fun i k c _ u hv => hren hv), r.2⟩
   | none =>
    rw [hs] at ho hl
    simp only at ho hl
    obtain ⟨blk, e, es, c, hbb, r⟩ := h.map o kv ho l hl
    have how : Owns G st o blk := by unfold Owns; rw [ho]; exact e ▸ hl
    exact ⟨blk, e, es, c, by rw [hheap o blk hs how]; exact hbb, ⟨r.1.mono hle, r.2⟩⟩
  ·intro o s p ho l hl
   rw [hget o] at ho
   rw [hG'] at hl
   cases hs : src ids st.length o with
   | some j =>
    rw [hs] at ho hl
    simp only at ho hl
    cases hq : st1[j]? with
    | none => simp [hq] at ho
    | some y =>
     simp only [hq, Option.map_some, Option.some.injEq] at ho
     cases y <;> simp only [LObj.ren, reduceCtorEq, LObj.siter.injEq] at ho
     obtain ⟨rfl, rfl⟩ := ho
     exact hw1.iter j _ _ hq l hl
   | none =>
    rw [hs] at ho hl
    simp only at ho hl
    obtain ⟨blk, e, hbb⟩ := h.iter o s p ho l hl
    have how : Owns G st o blk := by unfold Owns; rw [ho]; exact e ▸ hl
    exact ⟨blk, e, by rw [hheap o blk hs how]; exact hbb⟩
  ·intro o n hw ho
   rw [hget o] at ho
   simp only [hH']
   cases hs : src ids st.length o with
   | some j =>
    rw [hs] at ho
    simp only at ho ⊢
    cases hq : st1[j]? with
    | none => simp [hq] at ho
    | some y =>
     simp only [hq, Option.map_some, Option.some.injEq] at ho
     cases y <;> simp only [LObj.ren, reduceCtorEq, LObj.spare.injEq] at ho
     obtain ⟨rfl, rfl⟩ := ho
     exact hw1.spare j _ _ hq
   | none =>
    rw [hs] at ho
    simp only at ho ⊢
    obtain ⟨h1, h2⟩ := h.spare o n hw ho
    refine ⟨h1, fun s hs' => ?_⟩
    obtain ⟨a, ⟨arr, ty, hbb, hz⟩, hF⟩ := h2 s hs'
    have how : Owns G st o s.blk := by unfold Owns; rw [ho]; exact ⟨s, hs', rfl⟩
    refine ⟨a, ⟨arr, ty, by rw [hheap o _ hs how]; exact hbb, hz⟩, fun off hoff => ?_⟩
    cases hv : (G.push G1 ids st.length).F s.blk off with
    | none => rfl
    | some v =>
     obtain ⟨f1, f2⟩ := hfar o _ hs how
     have := hx1.newF s.blk off v hv f1 f2
     rw [show (G.pull ids).F s.blk off = G.F s.blk off from rfl, hF off hoff] at this
     cases this
  ·intro o o' c h1 h2
   rcases hown o c h1 with ⟨j, hj, g1⟩ | ⟨hj, g1⟩ <;> rcases hown o' c h2 with ⟨j', hj', g2⟩ | ⟨hj', g2⟩
   ·have := hw1.uniq j j' c g1 g2
    subst this
    rw [Wf hn hlt hj, Wf hn hlt hj']
   ·exact (hcross o' c j hj' g2 g1).elim
   ·exact (hcross o c j' hj g1 g2).elim
   ·exact h.uniq o o' c g1 g2
  ·intro o c h1 h2 off
   rcases hown o c h1 with ⟨j, hj, g1⟩ | ⟨hj, g1⟩
   ·refine hw1.ownF j c g1 (fun ⟨n, k, e⟩ => h2 ⟨n, k, ?_⟩) off
    rw [hget o, hj]; simp [e, LObj.ren]
   ·cases hv : (G.push G1 ids st.length).F c off with
    | none => rfl
    | some v =>
     obtain ⟨f1, f2⟩ := hfar o c hj g1
     have := hx1.newF c off v hv f1 f2
     rw [show (G.pull ids).F c off = G.F c off from rfl, h.ownF o c g1 (fun ⟨n, k, e⟩ => h2 ⟨n, k, by rw [hget o, hj]; exact e⟩) off] at this
     cases this
  ·intro o x ho hx f
   rw [hget o] at ho
   simp only [hH']
   cases hs : src ids st.length o with
   | some j =>
    rw [hs] at ho
    simp only at ho ⊢
    cases hq : st1[j]? with
    | none => simp [hq] at ho
    | some y =>
     simp only [hq, Option.map_some, Option.some.injEq] at ho
     refine hw1.kind j y hq (fun n k e => ?_) f
     subst e
     exact hx n k ho.symm
   | none =>
    rw [hs] at ho
    exact h.kind o x ho hx f
 refine ⟨_, hwr, hren hv1, ⟨hle, hx1.os, hx1.tape, hx1.output, hx1.hsz, ?_, ?_, ?_, ?_, by rw [hlen']; omega⟩⟩
 ·intro c hc ho
  exact hx1.unch c hc fun j hj => let ⟨o, _, h⟩ := hsub j c hj; ho o h
 ·intro o c ho hc
  rcases hown o c ho with ⟨j, hj, g1⟩ | ⟨hj, g1⟩
  ·obtain ⟨j', hj'⟩ := hx1.own j c g1 hc
   obtain ⟨o', _, ho'⟩ := hsub j' c hj'
   exact ⟨o', ho'⟩
  ·exact ⟨o, g1⟩
 ·intro c off v hv hc ho
  exact hx1.newF c off v hv hc fun j hj => let ⟨o, _, h⟩ := hsub j c hj; ho o h
 ·intro o ho h1 h2
  have hm : o ∉ ids := fun hm => by
   rcases hreal o hm with r | ⟨f, r⟩
   ·exact r h1
   ·exact r (h2 f)
  have hs : src ids st.length o = none := by unfold src; rw [if_neg hm, if_pos ho]
  refine ⟨by rw [hget o, hs], by rw [hG', hs]; exact h1, fun f => by rw [hH', hs]; exact h2 f⟩
end Go.LS
set_option linter.unusedVariables false
set_option linter.unusedSimpArgs false
namespace Go.LS
section ops
variable {P : Program} {G : Gh} {st st' : List LObj} {w : World} {t : List LV} {a : Act} {o : Oper} {v : LV}
theorem Rs (w : World) {b : Nat} {arr : Array Value} {e : TypeId} {fz : Nat × Nat} (hb : w.heap[b]? = some (.cells arr e fz)) (off n : Nat) (hn : n ≠ 0) :
  F3 b w (w.freeze ⟨b, off, none⟩ n) ∧ ∃ fz', (w.freeze ⟨b, off, none⟩ n).heap[b]? = some (.cells arr e fz') := by
 unfold World.freeze
 rw [if_neg hn]
 refine ⟨⟨by simp, fun c hc => ?_, rfl, rfl, rfl⟩, ?_⟩
 ·simp only [Array.getElem?_modify]
  rw [if_neg (Ne.symm hc)]
 ·simp only [Array.getElem?_modify, if_true, hb]
  exact ⟨_, rfl⟩
theorem Xu {src dst el s0 : TypeId} {x : Operand} (ho : o.op = .convert src dst x) (hsd : src = dst) (hs0 : P.underlying src = some (.slice s0)) (hd : P.underlying dst = some (.slice el)) {y : LX} (hy : A3 x = some y)
  (he : P.underlying el = some (.int .u8)) {q off len : Nat} (hv : y.ev t = .rs q off len) {es : List (List LV)} (hs : st[q]? = some (.row es)) (hl : off + len ≤ es.length) {qs : List (List PV)}
  (hq : E9 ((es.drop off).take len) = some qs) (h : WR G st w) (hx : XsR G t a o.op) : B1 P o a w (Good G st w (.p (.sl qs)) (st.set q .dead)) := by
 have h1 := hx x (by rw [ho]; simp [Op.operands]) y hy
 rw [hv] at h1
 obtain ⟨blk, size, n, cap, hloc, hu, hm, hlc, hnn⟩ := h1.rs_inv
 obtain ⟨blk', size', n', e', arr, ty, hb, hz, hen, hr⟩ := h.row q es hs _ hloc
 cases e'
 obtain ⟨f1, fz', f2⟩ := Rs w hb arr.size 1 (by decide)
 obtain ⟨r1, r2⟩ := h.retire hs hloc hb f1 f2
 have hrun : (execOp a.eval o).run P w = .ok (.value (.slice (some ⟨blk, off * size, none⟩) len cap)) (w.freeze ⟨blk, arr.size, none⟩ 1) := by
  have hsh : w.shape? blk = some (ty, arr.size) := by simp [World.shape?, hb]
  subst hsd
  simp [execOp, ho, hu, convert, run_underlying hd, run_underlying he, markStringish, hsh]
 refine As hrun ⟨_, r1, .p ?_, r2⟩
 obtain ⟨q1, q2⟩ := Gi hq
 have hlen : qs.length = len := by rw [q1]; simp; omega
 have hsz : ∀ e ∈ qs, e.length = size := F5 hq (fun e he => hr.1 e (List.mem_of_mem_drop (List.mem_of_mem_take he)))
 rw [← hlen]
 refine VP.mk (size := size) (by omega) hm hsz ?_
 intro i j p hp
 obtain ⟨c, hc1, hc2⟩ := q2 i j p hp
 have hc3 : at2 es (off + i) j = some c := by
  unfold at2 at hc1 ⊢
  rw [List.getElem?_take] at hc1
  split at hc1
  ·rw [List.getElem?_drop] at hc1; exact hc1
  ·simp at hc1
 obtain ⟨u, hu1, hu2, _⟩ := hr.2 (off + i) j c hc3
 refine ⟨u, ?_, (Dx hc2 hu2).mono (Gh.le_addF ..).F⟩
 simp only [Gh.addF]
 have hF : G.F blk (off * size + i * size + j) = none := h.ownF q blk (by unfold Owns; rw [hs]; exact ⟨size, n, hloc⟩) (by rintro ⟨a, b, e⟩; rw [hs] at e; cases e) _
 rw [hF]
 simp only [if_true]
 rw [← hu1]
 congr 1
 rw [Nat.add_mul]
theorem Zq {F : Nat → Nat → Option Value} {ft : TypeId} {kk : KK} {dd : TypeDesc} (hd : P.underlying ft = some dd) (hk : kk.desc dd) {a b : PV} (hf : kk.fits a = true) {u z : Value} {r : Bool} (hr : Kx a b = some r)
  (ha : VP F a u) (hb : VP F b z) (d : Nat) (w : World) : (Op.equalIn (d + 1) ft u z).run P w = .ok r w ∧ (part ft #[u] 0).run P w = .ok u w := by
 have hna : ∀ v : Value, (part ft #[v] 0).run P w = .ok v w := by
  intro v
  have : Iw dd = false := by
   cases kk <;> simp only [KK.desc] at hk
   ·obtain ⟨k, rfl⟩ := hk; rfl
   ·subst hk; rfl
   ·subst hk; rfl
  cases dd <;> simp [Iw] at this <;> simp [part, isAgg, run_underlying hd]
 refine ⟨?_, hna u⟩
 cases kk <;> cases a <;> simp only [KK.fits, Bool.false_eq_true] at hf <;> cases b <;> simp only [Kx] at hr <;> try (cases hr; done)
 ·obtain ⟨k, rfl⟩ := hk
  split at hr <;> cases hr
  subst_vars
  cases ha; cases hb
  exact run_equalIn_int w d ft _ k _ _ hd
 ·simp only [KK.desc] at hk; subst hk
  cases hr
  cases ha; cases hb
  rw [run_equalIn_string w d ft _ _ hd]
  simp [ByteArray.toList_eq]
 ·simp only [KK.desc] at hk; subst hk
  cases hr
  cases ha; cases hb
  exact run_equalIn_bool' w d ft _ _ hd
theorem Wg {ft : TypeId} {kk : KK} {dd : TypeDesc} (hd : P.underlying ft = some dd) (hk : kk.desc dd) {arr : Array Value} {off : Nat} {u : Value} (h : arr[off]? = some u) (w : World) : (part ft arr off).run P w = .ok u w := by
 have : Iw dd = false := by
  cases kk <;> simp only [KK.desc] at hk
  ·obtain ⟨k, rfl⟩ := hk; rfl
  ·subst hk; rfl
  ·subst hk; rfl
 cases dd <;> simp [Iw] at this <;> simp [part, isAgg, run_underlying hd, h]
theorem Kb {xs ys : Array Value} {cx cy : List LV} (hx : CellsR G cx xs) (hy : CellsR G cy ys) (d : Nat) (w : World) : ∀ {fs : List Field} {l : List (Nat × KK)} {r : Bool}, Zb P fs = some l → Ii cx cy l = some r →
  (Op.eqFields (d + 1) xs ys fs).run P w = .ok r w
 | [], l, r, hl, hr => by
  simp only [Zb] at hl; cases hl
  simp only [Ii] at hr; cases hr
  simp [Op.eqFields]
 | f :: fs, l, r, hl, hr => by
  simp only [Zb] at hl
  split at hl
  ·rename_i kk l' hkk hl'
   split at hl
   ·cases hl
   ·rename_i hn
    cases hl
    simp only [Ii] at hr
    split at hr
    ·rename_i a b ea eb
     split at hr
     ·rename_i hf
      split at hr
      ·rename_i p q hp hq
       cases hr
       obtain ⟨dd, hd, hk⟩ := Io hkk
       obtain ⟨u, hu, hvu⟩ : ∃ u, xs[f.offset]? = some u ∧ VP G.F a u := by
        have hlt : f.offset < xs.size := by rw [hx.1]; exact (List.getElem?_eq_some_iff.1 ea).1
        obtain ⟨u, h1, h2, _⟩ := hx.2 _ _ ea
        exact ⟨u, h1, by cases h2 with | p h => exact h⟩
       obtain ⟨z, hz, hvz⟩ : ∃ u, ys[f.offset]? = some u ∧ VP G.F b u := by
        obtain ⟨u, h1, h2, _⟩ := hy.2 _ _ eb
        exact ⟨u, h1, by cases h2 with | p h => exact h⟩
       have hne : f.name ≠ "_" := by simpa using hn
       have hrest := Kb hx hy d w hl' hq
       have he := (Zq (P := P) hd hk hf hp hvu hvz d w).1
       simp only [Op.eqFields, Sem.run_ite, if_pos hne, Sem.run_bind, Wg hd hk hu, Wg hd hk hz, Result.andThen_ok, he]
       cases p
       ·simp
       ·simp [hrest]
      ·cases hr
     ·cases hr
    ·cases hr
  ·cases hl
theorem Zr {neg : Bool} {ty ty' : TypeId} {x y : Operand} (ho : o.op = .binOp (if neg then .neq else .eql) ty x y ty') {fs : Array Field} (hty : P.underlying ty = some (.struct fs)) {l : List (Nat × KK)} (hl : T0 P ty fs = some l)
  {x' y' : LX} (hx' : A3 x = some x') (hy' : A3 y = some y') {cx cy : List LV} (hvx : x'.ev t = .agg cx) (hvy : y'.ev t = .agg cy) {b : Bool} (hb : Ii cx cy l = some b) (h : WR G st w) (hx : XsR G t a o.op) :
  B1 P o a w (Good G st w (.p (.bool (b != neg))) st) := by
 have h1 := hx x (by rw [ho]; simp [Op.operands]) x' hx'
 have h2 := hx y (by rw [ho]; simp [Op.operands]) y' hy'
 rw [hvx] at h1
 rw [hvy] at h2
 obtain ⟨xs, u1, c1⟩ := h1.agg_inv
 obtain ⟨ys, u2, c2⟩ := h2.agg_inv
 unfold T0 at hl
 split at hl
 ·rename_i hc
  simp only [Bool.and_eq_true, beq_iff_eq] at hc
  have hfs : P.fieldsOf ty = fs := by simp [Program.fieldsOf, hty]
  have hrun := run_equalIn_struct w 9999 ty xs ys (by rw [hfs]; exact hty) hc.2
  rw [hfs, Kb c1 c2 9998 w hl hb] at hrun
  refine As (u := .bool (b != neg)) (w' := w) ?_ (.same h (.p (.bool _)))
  cases neg
  ·simp only [execOp, ho, u1, u2, Bool.false_eq_true, if_false, Sem.run_bind, run_eqGuard_agg w _ ty x y xs ys hc.1, Result.andThen_ok, run_eql_struct w, hrun, Sem.run_pure]
   simp
  ·simp only [execOp, ho, u1, u2, if_true, Sem.run_bind, run_eqGuard_agg w _ ty x y xs ys hc.1, Result.andThen_ok, run_neq_struct w, hrun, Sem.run_pure]
   simp
 ·cases hl
theorem op_fnm {f : FuncId} {first captured : Array Operand} (ho : o.op = .makeFunc (.func f) first captured) {fs cs : List LX} (hf : D5 first.toList = some fs) (hc : D5 captured.toList = some cs)
  (h : WR G st w) (hx : XsR G t a o.op) : B1 P o a w (Good G st w (.fn (.func f) (fs.map (LX.ev t)) (cs.map (LX.ev t))) st) := by
 have hA := Hv (G := G) (t := t) (a := a) (l := captured.toList) (fun x hm y hy => hx x (by rw [ho]; simp only [Op.operands, Array.mem_append]; exact .inr (by simpa using hm)) y hy) hc
 have hB := Hv (G := G) (t := t) (a := a) (l := first.toList) (fun x hm y hy => hx x (by rw [ho]; simp only [Op.operands, Array.mem_append]; exact .inl (by simpa using hm)) y hy) hf
 refine As (u := .func (.func f) (first.map a.eval) (captured.map a.eval)) (w' := w) ?_ (.same h ?_)
 ·simp [execOp, ho, Instr.makeFunc]
 ·refine .fn _ _ _ (by have := hB.1; simpa using this) (by have := hA.1; simpa using this) ?_ ?_
  ·intro i x hi
   have := hB.2 i x hi
   simpa using this
  ·intro i x hi
   have := hA.2 i x hi
   simpa using this
theorem Zs {ty e : TypeId} {x : Operand} (ho : o.op = .call { callee := .builtin .clear, args := #[x], argTypes := #[ty] }) (hty : P.underlying ty = some (.slice e)) {y : LX} (hy : A3 x = some y)
  {z : List LV} (hz : Db P e = some z) {q off len : Nat} (hv : y.ev t = .rs q off len) (h0 : len ≠ 0) {es : List (List LV)} (hs : st[q]? = some (.row es)) (hl : off + len ≤ es.length)
  (hall : es.all (fun e => e.length == z.length) = true) (hzp : 0 < z.length) (h : WR G st w) (hx : XsR G t a o.op) :
  B1 P o a w (Good G st w (.tup []) (st.set q (.row (es.take off ++ List.replicate len z ++ es.drop (off + len))))) := by
 have h1 := hx x (by rw [ho]; simp [Op.operands, Call.operands]) y hy
 rw [hv] at h1
 obtain ⟨blk, size, n, cap, hloc, hu, hm, hlc, hnn⟩ := h1.rs_inv
 obtain ⟨blk', size', n', e', arr, ty', hb, hsz, hen, hr⟩ := h.row q es hs _ hloc
 cases e'
 obtain ⟨i, zv, hi, hzv, hzr⟩ := Fs hz
 have hsz2 : z.length = size := by
  cases es with
  | nil => simp at hl; omega
  | cons e0 r =>
   have h2 := hr.1 e0 (List.mem_cons_self ..)
   have h3 := List.all_eq_true.1 hall e0 (List.mem_cons_self ..)
   simp at h3
   omega
 have hzs : zv.cells.size = z.length := (hzr G).1
 have hrz := In (hzr G) len hzp
 have hnew : Builtin.zeroCells zv.cells len = madeCells zv.cells (len * z.length) := by simp [Builtin.zeroCells, madeCells, hzs]
 generalize hnews : madeCells zv.cells (len * z.length) = news at hrz hnew
 have hnl : news.toList.length = len * size := by rw [← hnews, ← hsz2]; simp [size_madeCells]
 have h1c : ∀ u ∈ news.toList, u.oneCell' = true := by
  intro u hu'
  obtain ⟨j, hj⟩ := List.getElem?_of_mem hu'
  have hjl : j < len * size := by have := (List.getElem?_eq_some_iff.1 hj).1; omega
  have hp : 0 < size := by omega
  have hd : j / size < len := by rw [Nat.div_lt_iff_lt_mul hp]; exact hjl
  have hmd : j % size < z.length := by rw [hsz2]; exact Nat.mod_lt _ hp
  obtain ⟨u2, a1, _, a3⟩ := hrz.2 (j / size) (j % size) z[j % size] (by simp [at2, hd])
  have e2 : j / size * z.length + j % size = j := by rw [hsz2, Nat.mul_comm]; exact Nat.div_add_mod j size
  rw [e2] at a1
  simp only [Array.getElem?_toList] at hj
  rw [a1] at hj; cases hj; exact a3
 have hfit : off * size + len * size ≤ arr.size := by
  rw [hsz, ← Nat.add_mul]
  exact Nat.mul_le_mul_right _ (by omega)
 have hrun := run_storeCells_at P blk (off * size) ty' news.toList 0 arr w hb (by rw [hnl]; simpa using hfit) h1c
 simp only [Nat.add_zero] at hrun
 generalize hcur : (arr.toList.take (off * size) ++ news.toList ++ arr.toList.drop (off * size + news.toList.length)) = cur at hrun
 have hget : ∀ j, cur[j]? = if off * size ≤ j ∧ j < off * size + news.toList.length then news.toList[j - off * size]? else arr.toList[j]? := fun j => by
  rw [← hcur]; exact Dq arr.toList news.toList (off * size) j (by rw [hnl]; simpa using hfit)
 have hcl : cur.length = arr.size := by rw [← hcur]; simp only [List.length_append, List.length_take, List.length_drop, hnl, Array.length_toList]; omega
 have hgetE : ∀ i, (es.take off ++ List.replicate len z ++ es.drop (off + len))[i]? = if off ≤ i ∧ i < off + len then (List.replicate len z)[i - off]? else es[i]? := fun i => by
  have := Dq es (List.replicate len z) off i (by simpa using hl)
  simpa using this
 have hrow : rowOk G cur.toArray (es.take off ++ List.replicate len z ++ es.drop (off + len)) size := by
  refine ⟨fun e hem => ?_, fun i' j' c hc' => ?_⟩
  ·simp only [List.mem_append] at hem
   rcases hem with (hem | hem) | hem
   ·exact hr.1 e (List.mem_of_mem_take hem)
   ·rw [List.eq_of_mem_replicate hem]; exact hsz2
   ·exact hr.1 e (List.mem_of_mem_drop hem)
  ·unfold at2 at hc'
   rw [hgetE] at hc'
   split at hc'
   ·rename_i hi'
    have hj' : j' < size := by
     rw [List.getElem?_replicate] at hc'
     split at hc'
     ·simp only [Option.bind_some] at hc'
      have := (List.getElem?_eq_some_iff.1 hc').1
      omega
     ·simp at hc'
    obtain ⟨u, a1, a2, a3⟩ := hrz.2 (i' - off) j' c hc'
    refine ⟨u, ?_, a2, a3⟩
    simp only [List.getElem?_toArray]
    have b1 : off * size ≤ i' * size := Nat.mul_le_mul_right _ hi'.1
    have b2 : (i' + 1) * size ≤ (off + len) * size := Nat.mul_le_mul_right _ (by omega)
    rw [Nat.add_mul, Nat.add_mul] at b2
    rw [hget, if_pos (by rw [hnl]; omega)]
    simp only [Array.getElem?_toList]
    rw [← a1]; congr 1
    rw [hsz2, Nat.sub_mul]; omega
   ·rename_i hi'
    obtain ⟨u, a1, a2, a3⟩ := hr.2 i' j' c hc'
    refine ⟨u, ?_, a2, a3⟩
    have hj' : j' < size := by
     cases hq : es[i']? with
     | none => simp [hq] at hc'
     | some e' =>
      simp [hq] at hc'
      have := hr.1 e' (List.mem_of_getElem? hq)
      have := (List.getElem?_eq_some_iff.1 hc').1
      omega
    simp only [List.getElem?_toArray]
    rw [hget, if_neg ?_]
    ·simpa using a1
    ·rw [hnl]
     rintro ⟨b1, b2⟩
     rcases Nat.lt_or_ge i' off with hlt | hge
     ·have : (i' + 1) * size ≤ off * size := Nat.mul_le_mul_right _ hlt
      rw [Nat.add_mul] at this; omega
     ·have : (off + len) * size ≤ i' * size := Nat.mul_le_mul_right _ (by omega)
      rw [Nat.add_mul] at this; omega
 have hsb : F3 blk w (w.setRow blk cur.toArray) := ⟨by simp [World.setRow], fun c hc => setRow_other w blk c _ hc, rfl, rfl, rfl⟩
 obtain ⟨r1, r2⟩ := h.setObj hs hloc (x' := .row (es.take off ++ List.replicate len z ++ es.drop (off + len))) (ob := .cells cur.toArray ty' (0, 0))
  (.inl ⟨es, _, size, n, cur.toArray, ty', rfl, rfl, rfl, rfl, by simp [hcl, hsz], by simp; omega, hrow⟩) hsb (setRow_heap w blk arr _ ty' _ hb)
 refine As (u := .tuple #[]) ?_ ⟨G, r1, .unit G, r2⟩
 obtain ⟨len, rfl⟩ : ∃ k, len = k + 1 := ⟨len - 1, by omega⟩
 have hzr' : ∀ w, (zeroValue e).run P w = .ok zv w := fun w => Cy hi hzv w
 simp [execOp, ho, resolve, invoke, builtin, Builtin.clear_, run_underlying hty, hu, hzr', hnew, hrun]
theorem K8 {ty e : TypeId} {x : Operand} (ho : o.op = .call { callee := .builtin .clear, args := #[x], argTypes := #[ty] }) (hty : P.underlying ty = some (.slice e)) {y : LX} (hy : A3 x = some y)
  (hv : (∃ q off, y.ev t = .rs q off 0) ∨ y.ev t = .p (.sl []) ∨ y.ev t = .tight []) (h : WR G st w) (hx : XsR G t a o.op) :
  B1 P o a w (Good G st w (.tup []) st) := by
 have h1 := hx x (by rw [ho]; simp [Op.operands, Call.operands]) y hy
 have hu : ∃ (ad : Option Addr) (cap : Nat), a.eval x = .slice ad 0 cap := by
  rcases hv with ⟨q, off, hv⟩ | hv | hv <;> rw [hv] at h1
  ·obtain ⟨blk, size, n, cap, hloc, hu, hm, hlc, hnn⟩ := h1.rs_inv
   exact ⟨_, _, hu⟩
  ·generalize a.eval x = u at h1
   cases h1 with
   | p h1 => cases h1 <;> exact ⟨_, _, rfl⟩
  ·generalize a.eval x = u at h1
   cases h1 with
   | tight h1 => exact ⟨_, _, rfl⟩
 obtain ⟨ad, cap, hu⟩ := hu
 refine As (u := .tuple #[]) (w' := w) ?_ (.same h (.unit G))
 cases ad <;> simp [execOp, ho, resolve, invoke, builtin, Builtin.clear_, run_underlying hty, hu]
end ops
end Go.LS
set_option linter.unusedVariables false
set_option linter.unusedSimpArgs false
namespace Go.LS
theorem WR.kill {G : Gh} {st : List LObj} {w : World} (h : WR G st w) {o : Nat} {l : Loc} {es : List (List LV)} (hl : G.loc o = some l) (hs : st[o]? = some (.row es)) :
  (WR G (st.set o .dead) w ∧ Ext G st w G (st.set o .dead) w) ∧ ∀ o' c, Owns G (st.set o .dead) o' c → o' ≠ o ∧ Owns G st o' c := by
 have holt : o < st.length := (List.getElem?_eq_some_iff.1 hs).1
 have hself : (st.set o LObj.dead)[o]? = some .dead := List.getElem?_set_self holt
 have hoo : ∀ o' c, Owns G (st.set o .dead) o' c → o' ≠ o ∧ Owns G st o' c := by
  intro o' c ho
  by_cases e' : o' = o
  ·subst e'; unfold Owns at ho; rw [hself] at ho; exact ho.elim
  ·refine ⟨e', ?_⟩
   unfold Owns at ho ⊢
   rw [List.getElem?_set_ne (Ne.symm e')] at ho
   exact ho
 have gc : ∀ {o' : Nat} {x : LObj}, (st.set o .dead)[o']? = some x → (o' ≠ o ∧ st[o']? = some x) ∨ (o' = o ∧ x = .dead) := by
  intro o' x hx
  by_cases e' : o' = o
  ·subst e'; rw [hself] at hx; cases hx; exact .inr ⟨rfl, rfl⟩
  ·rw [List.getElem?_set_ne (Ne.symm e')] at hx; exact .inl ⟨e', hx⟩
 refine ⟨⟨⟨h.fr, ?_, ?_, ?_, ?_, ?_, ?_, ?_, fun o' y ho hy f => ?_⟩, ⟨.refl G, rfl, rfl, rfl, Nat.le_refl _, fun _ _ _ => rfl, ?_, fun _ _ _ hv _ _ => hv, ?_, by simp⟩⟩, hoo⟩
 ·intro o' ho'; simp at ho'; exact h.dom o' ho'
 ·intro o' es' ho' l' hl'
  rcases gc ho' with ⟨_, ho'⟩ | ⟨_, e⟩
  ·exact h.row o' es' ho' l' hl'
  ·cases e
 ·intro o' kv ho' l' hl'
  rcases gc ho' with ⟨_, ho'⟩ | ⟨_, e⟩
  ·exact h.map o' kv ho' l' hl'
  ·cases e
 ·intro o' s p ho' l' hl'
  rcases gc ho' with ⟨_, ho'⟩ | ⟨_, e⟩
  ·exact h.iter o' s p ho' l' hl'
  ·cases e
 ·intro o' n k ho'
  rcases gc ho' with ⟨_, ho'⟩ | ⟨_, e⟩
  ·exact h.spare o' n k ho'
  ·cases e
 ·intro o1 o2 c h1 h2
  exact h.uniq o1 o2 c (hoo _ _ h1).2 (hoo _ _ h2).2
 ·intro o' c h1 h2 off
  obtain ⟨e1, h1'⟩ := hoo _ _ h1
  exact h.ownF o' c h1' (fun ⟨n, k, e⟩ => h2 ⟨n, k, by rw [List.getElem?_set_ne (Ne.symm e1)]; exact e⟩) off
 ·rcases gc ho with ⟨_, ho⟩ | ⟨rfl, rfl⟩
  ·exact h.kind o' y ho hy f
  ·exact h.kind _ _ hs (fun n k e => by cases e) f
 ·intro o' c h1 _; exact ⟨o', (hoo _ _ h1).2⟩
 ·intro o' ho' h1 h2
  refine ⟨?_, h1, h2⟩
  rw [List.getElem?_set_ne]
  intro e; subst e; rw [hl] at h1; cases h1
theorem WR.adopt {G : Gh} {st : List LObj} {w : World} (h : WR G st w) {b size n : Nat} {es : List (List LV)} {arr : Array Value} {e : TypeId} (hno : ∀ o, ¬ Owns G st o b)
  (hb : w.heap[b]? = some (.cells arr e (0, 0))) (h1 : arr.size = n * size) (h2 : es.length ≤ n) (h3 : rowOk G arr es size) (hF : ∀ off, G.F b off = none) :
  WR (G.addLoc st.length (.row b size n)) (st ++ [.row es]) w ∧ ∀ o c, Owns (G.addLoc st.length (.row b size n)) (st ++ [.row es]) o c → (o < st.length ∧ Owns G st o c) ∨ (o = st.length ∧ c = b) := by
 generalize hG : G.addLoc st.length (.row b size n) = G'
 have hle : G.le G' := hG ▸ Gh.le_addLoc (h.dom _ (Nat.le_refl _)).1
 have hloc : ∀ o, o < st.length → G'.loc o = G.loc o := fun o ho => by rw [← hG]; simp [Gh.addLoc, Nat.ne_of_lt ho]
 have hhist : ∀ o f, G'.hist o f = G.hist o f := fun _ _ => by rw [← hG]; rfl
 have hFF : ∀ c o, G'.F c o = G.F c o := fun _ _ => by rw [← hG]; rfl
 have hnew : G'.loc st.length = some (.row b size n) := by rw [← hG]; simp [Gh.addLoc]
 have hoo : ∀ o c, Owns G' (st ++ [.row es]) o c → (o < st.length ∧ Owns G st o c) ∨ (o = st.length ∧ c = b) := by
  intro o c ho
  have := Owns.lt ho
  simp at this
  rcases Nat.lt_or_ge o st.length with h' | h'
  ·exact .inl ⟨h', (Owns.snoc h' (hloc o h') (fun f => hhist o f)).1 ho⟩
  ·obtain rfl : o = st.length := by omega
   refine .inr ⟨rfl, ?_⟩
   unfold Owns at ho
   rw [D6, hnew] at ho
   obtain ⟨_, _, e⟩ := ho
   cases e; rfl
 refine ⟨⟨?_, ?_, ?_, ?_, ?_, ?_, ?_, ?_, fun o y ho hy f => ?_⟩, hoo⟩
 ·intro c o v hv; rw [hFF] at hv; exact h.fr c o v hv
 ·intro o ho
  simp at ho
  refine ⟨?_, fun f => by rw [hhist]; exact (h.dom o (by omega)).2 f⟩
  rw [← hG]
  simp only [Gh.addLoc]
  rw [if_neg (by omega)]
  exact (h.dom o (by omega)).1
 ·intro o es' ho l' hl'
  rcases Bd ho with ⟨h', ho⟩ | ⟨rfl, e0⟩
  ·rw [hloc o h'] at hl'
   obtain ⟨blk, size, n, e, arr, ty, hb, r⟩ := h.row o es' ho l' hl'
   exact ⟨blk, size, n, e, arr, ty, hb, r.1, r.2.1, r.2.2.mono hle⟩
  ·cases e0
   rw [hnew] at hl'
   cases hl'
   exact ⟨b, size, n, rfl, arr, e, hb, h1, h2, h3.mono hle⟩
 ·intro o kv ho l' hl'
  rcases Bd ho with ⟨h', ho⟩ | ⟨rfl, e0⟩
  ·rw [hloc o h'] at hl'
   obtain ⟨blk, e, es, c, hb, r⟩ := h.map o kv ho l' hl'
   exact ⟨blk, e, es, c, hb, ⟨r.1.mono hle, r.2⟩⟩
  ·cases e0
 ·intro o s pos ho l' hl'
  rcases Bd ho with ⟨h', ho⟩ | ⟨rfl, e0⟩
  ·rw [hloc o h'] at hl'
   exact h.iter o s pos ho l' hl'
  ·cases e0
 ·intro o n hw ho
  rcases Bd ho with ⟨h', ho⟩ | ⟨rfl, e0⟩
  ·obtain ⟨h1, h2⟩ := h.spare o n hw ho
   refine ⟨fun f hf => by rw [hhist]; exact h1 f hf, fun s hs => ?_⟩
   rw [hhist] at hs
   obtain ⟨a, b, c⟩ := h2 s hs
   exact ⟨a, b, fun off ho => by rw [hFF]; exact c off ho⟩
  ·cases e0
 ·intro o o' c ho ho'
  rcases hoo o c ho with ⟨h1, h2⟩ | ⟨rfl, rfl⟩ <;> rcases hoo o' _ ho' with ⟨h3, h4⟩ | ⟨rfl, h5⟩
  ·exact h.uniq o o' c h2 h4
  ·subst h5; exact (hno _ h2).elim
  ·exact (hno _ h4).elim
  ·rfl
 ·intro o c ho hn off
  rw [hFF]
  rcases hoo o c ho with ⟨h1, h2⟩ | ⟨rfl, rfl⟩
  ·exact h.ownF o c h2 (fun ⟨n, hw, e⟩ => hn ⟨n, hw, by rw [C5 h1]; exact e⟩) off
  ·exact hF off
 ·rw [hhist]
  rcases Bd ho with ⟨_, ho⟩ | ⟨rfl, _⟩
  ·exact h.kind o y ho hy f
  ·exact (h.dom _ (Nat.le_refl _)).2 f
theorem WR.move {G : Gh} {st : List LObj} {w : World} (h : WR G st w) {o b size n : Nat} {es : List (List LV)} (hs : st[o]? = some (.row es)) (hl : G.loc o = some (.row b size n)) :
  WR (G.addLoc st.length (.row b size n)) (st.set o .dead ++ [.row es]) w ∧ Ext G st w (G.addLoc st.length (.row b size n)) (st.set o .dead ++ [.row es]) w := by
 obtain ⟨⟨k1, k2⟩, k3⟩ := h.kill hl hs
 have how : Owns G st o b := by unfold Owns; rw [hs]; exact ⟨size, n, hl⟩
 have hno : ∀ o', ¬ Owns G (st.set o .dead) o' b := fun o' ho => (k3 o' b ho).1 (h.uniq o' o b (k3 o' b ho).2 how)
 obtain ⟨b', s', n', e, arr, ty, hb, r1, r2, r3⟩ := h.row o es hs _ hl
 cases e
 have hF : ∀ off, G.F b off = none := h.ownF o b how (by rintro ⟨_, _, e⟩; rw [hs] at e; cases e)
 obtain ⟨a1, a2⟩ := k1.adopt hno hb r1 r2 r3 hF
 have hlen : (st.set o LObj.dead).length = st.length := by simp
 rw [hlen] at a1 a2
 refine ⟨a1, ⟨Gh.le_addLoc (h.dom _ (Nat.le_refl _)).1, rfl, rfl, rfl, Nat.le_refl _, fun _ _ _ => rfl, ?_, fun _ _ _ hv _ _ => hv, ?_, by simp⟩⟩
 ·intro o' c ho hc
  rcases a2 o' c ho with ⟨_, h2⟩ | ⟨_, rfl⟩
  ·exact ⟨o', (k3 _ _ h2).2⟩
  ·exact ⟨o, how⟩
 ·intro o' ho' h1 h2
  have hne : o' ≠ o := by intro e; subst e; rw [hl] at h1; cases h1
  refine ⟨?_, ?_, h2⟩
  ·rw [List.getElem?_append_left (by simpa using ho'), List.getElem?_set_ne (Ne.symm hne)]
  ·simp only [Gh.addLoc]
   rw [if_neg (by omega)]
   exact h1
section ops
variable {P : Program} {G : Gh} {st st' : List LObj} {w : World} {t : List LV} {a : Act} {o : Oper} {v : LV}
def LCells (G : Gh) (xs : List (List LV)) (size : Nat) (news : List Value) : Prop :=
 news.length = xs.length * size ∧ ∀ i j c, at2 xs i j = some c → ∃ y, news[i * size + j]? = some y ∧ VL G c y ∧ y.oneCell' = true
theorem at2_ltL {xs : List (List LV)} {size i j : Nat} {c : LV} (hs : ∀ e ∈ xs, e.length = size) (h : at2 xs i j = some c) : i < xs.length ∧ j < size := by
 unfold at2 at h
 cases hq : xs[i]? with
 | none => simp [hq] at h
 | some e =>
  simp [hq] at h
  have h1 := (List.getElem?_eq_some_iff.1 hq).1
  have h2 := (List.getElem?_eq_some_iff.1 h).1
  rw [hs e (List.mem_of_getElem? hq)] at h2
  exact ⟨h1, h2⟩
theorem LCells.one {xs : List (List LV)} {size : Nat} {news : List Value} (h : LCells G xs size news) (hs : ∀ e ∈ xs, e.length = size) : ∀ y ∈ news, y.oneCell' = true := by
 intro y hy
 obtain ⟨k, hk⟩ := List.getElem?_of_mem hy
 have hlt := (List.getElem?_eq_some_iff.1 hk).1
 rw [h.1] at hlt
 obtain ⟨i, j, h1, h2, rfl⟩ := Nj hlt
 have hl := hs xs[i] (List.getElem_mem _)
 obtain ⟨y', a1, _, a3⟩ := h.2 i j (xs[i][j]'(by omega)) (by simp [at2, h1])
 rw [hk] at a1; cases a1
 exact a3
theorem Kc {off len size n : Nat} {es : List (List LV)} {arr : Array Value} (hr : rowOk G arr es size) (hz : arr.size = n * size) (hmm : es.length ≤ n) (hle : off + len ≤ es.length) :
  LCells G ((es.drop off).take len) size ((arr.toList.drop (off * size)).take (len * size)) := by
 have hb1 : (off + len) * size ≤ n * size := Nat.mul_le_mul_right _ (by omega)
 rw [Nat.add_mul] at hb1
 have hlen : ((es.drop off).take len).length = len := by simp; omega
 refine ⟨?_, fun i j c hc => ?_⟩
 ·rw [hlen]
  simp only [List.length_take, List.length_drop, Array.length_toList]; omega
 ·have hs : ∀ e ∈ (es.drop off).take len, e.length = size := fun e he => hr.1 e (List.mem_of_mem_drop (List.mem_of_mem_take he))
  obtain ⟨hi, hj⟩ := at2_ltL hs hc
  rw [hlen] at hi
  have hc' : at2 es (off + i) j = some c := by
   unfold at2 at hc ⊢
   rw [List.getElem?_take, if_pos hi, List.getElem?_drop] at hc
   exact hc
  obtain ⟨y, a1, a2, a3⟩ := hr.2 _ _ _ hc'
  refine ⟨y, ?_, a2, a3⟩
  have hlt2 : i * size + j < len * size := by
   have : (i + 1) * size ≤ len * size := Nat.mul_le_mul_right _ (by omega)
   rw [Nat.add_mul] at this; omega
  rw [List.getElem?_take, if_pos hlt2, List.getElem?_drop]
  simp only [Array.getElem?_toList]
  rw [← a1]; congr 1; rw [Nat.add_mul]; omega
theorem Kd {w' : World} {off len size n blk cap : Nat} {arr : Array Value} {ty : TypeId} {fz : Nat × Nat} (hb : w'.heap[blk]? = some (.cells arr ty fz)) (hz : arr.size = n * size) (hle : off + len ≤ n) :
  (Builtin.firstCells size len (.slice (some ⟨blk, off * size, none⟩) len cap)).run P w' = .ok ((arr.toList.drop (off * size)).take (len * size)).toArray w' := by
 have hb1 : (off + len) * size ≤ n * size := Nat.mul_le_mul_right _ hle
 rw [Nat.add_mul] at hb1
 refine run_firstCells_some (P := P) w' size len ⟨blk, off * size, none⟩ _ cap _ (by simp only [List.length_take, List.length_drop, Array.length_toList]; omega) (fun k y hk => ?_)
 rw [List.getElem?_take] at hk
 split at hk
 ·rw [List.getElem?_drop] at hk
  simp only [Array.getElem?_toList] at hk
  rw [Addr.add_lit]
  unfold World.cell?
  rw [hb]
  simpa using hk
 ·cases hk
theorem Mt (h : WR G st w) {x : LV} {xs : List (List LV)} {size : Nat} (hx : Eq st x = some xs) (hs : ∀ e ∈ xs, e.length = size) {u : Value} (hu : VL G x u) :
  ∃ news, LCells G xs size news ∧ (Builtin.lenOf u).run P w = .ok xs.length w ∧ ∀ w', w'.heap = w.heap → (Builtin.firstCells size xs.length u).run P w' = .ok news.toArray w' := by
 unfold Eq at hx
 split at hx
 ·rename_i q off len
  split at hx
  ·rename_i es hes
   split at hx
   ·rename_i hle
    cases hx
    obtain ⟨blk, size', n, cap, hloc, rfl, hm, hlc, hn⟩ := hu.rs_inv
    obtain ⟨blk', size'', n', e5, arr, ty, hb, hz, hmm, hr⟩ := h.row q es hes _ hloc
    cases e5
    have hlen : ((es.drop off).take len).length = len := by simp; omega
    by_cases h0 : len = 0
    ·subst h0
     refine ⟨[], ⟨by simp, fun i j c h => by simp [at2] at h⟩, by simp [Builtin.lenOf], fun w' _ => ?_⟩
     simp only [List.take_zero, List.length_nil]
     exact run_firstCells_some (P := P) w' size 0 _ 0 cap [] (by simp) (fun k y hk => by simp at hk)
    ·have hse : size' = size := by
      have hp : 0 < ((es.drop off).take len).length := by omega
      have h1 := hs _ (List.getElem_mem hp)
      have h2 := hr.1 _ (List.mem_of_mem_drop (List.mem_of_mem_take (List.getElem_mem hp)))
      omega
     subst hse
     refine ⟨_, Kc hr hz hmm hle, by simp [Builtin.lenOf, hlen], fun w' hw' => ?_⟩
     rw [hlen]
     exact Kd (by rw [hw']; exact hb) hz (by omega)
   ·cases hx
  ·cases hx
 ·rename_i hne
  split at hx
  ·rename_i ps hps
   cases hx
   have hs' : ∀ e ∈ ps, e.length = size := fun e he => by have := hs _ (List.mem_map_of_mem he); simpa using this
   obtain ⟨news, n1, n2, n3⟩ := Fq (P := P) h (str := false) (x := x) (xs := ps) (size := size) (by
    unfold Ez
    split
    ·simp [LV.asSl] at hps
    ·exact absurd rfl (hne _ _ _)
    ·exact hps) hs' hu (by intro e; cases e)
   refine ⟨news, ⟨by simpa using n1.1, fun i j c hc => ?_⟩, by simpa using n2, by simpa using n3⟩
   unfold at2 at hc
   rw [List.getElem?_map] at hc
   cases hq : ps[i]? with
   | none => simp [hq] at hc
   | some e =>
    simp [hq] at hc
    obtain ⟨p, hp, rfl⟩ := hc
    obtain ⟨y, a1, a2⟩ := n1.2 i j p (by simp [at2, hq, hp])
    exact ⟨y, a1, .p a2, a2.one⟩
  ·cases hx
theorem Fb {arr : Array Value} {es xs : List (List LV)} {olds news rest : List Value} {size : Nat} (h1 : LCells G es size olds) (h2 : LCells G xs size news) (s1 : ∀ e ∈ es, e.length = size) (s2 : ∀ e ∈ xs, e.length = size)
  (ha : arr.toList = olds ++ news ++ rest) : rowOk G arr (es ++ xs) size := by
 refine ⟨fun e he => (List.mem_append.1 he).elim (s1 e) (s2 e), fun i j c hc => ?_⟩
 have hget : ∀ k, arr[k]? = (olds ++ news ++ rest)[k]? := fun k => by rw [← ha, Array.getElem?_toList]
 unfold at2 at hc
 rcases Nat.lt_or_ge i es.length with hi | hi
 ·rw [List.getElem?_append_left hi] at hc
  obtain ⟨y, a1, a2, a3⟩ := h1.2 i j c hc
  refine ⟨y, ?_, a2, a3⟩
  have := (List.getElem?_eq_some_iff.1 a1).1
  rw [hget, List.append_assoc, List.getElem?_append_left this]; exact a1
 ·rw [List.getElem?_append_right hi] at hc
  obtain ⟨y, a1, a2, a3⟩ := h2.2 (i - es.length) j c hc
  refine ⟨y, ?_, a2, a3⟩
  have h3 := (List.getElem?_eq_some_iff.1 a1).1
  have e : i * size + j = olds.length + ((i - es.length) * size + j) := by
   rw [h1.1, Nat.sub_mul]
   have : es.length * size ≤ i * size := Nat.mul_le_mul_right _ hi
   omega
  rw [hget, e, List.append_assoc, List.getElem?_append_right (by omega), Nat.add_sub_cancel_left, List.getElem?_append_left h3]; exact a1
theorem LCells.append {es xs : List (List LV)} {olds news : List Value} {size : Nat} (h1 : LCells G es size olds) (h2 : LCells G xs size news) : LCells G (es ++ xs) size (olds ++ news) := by
 refine ⟨by rw [List.length_append, List.length_append, h1.1, h2.1, Nat.add_mul], fun i j c hc => ?_⟩
 unfold at2 at hc
 rcases Nat.lt_or_ge i es.length with hi | hi
 ·rw [List.getElem?_append_left hi] at hc
  obtain ⟨y, a1, a2, a3⟩ := h1.2 i j c hc
  refine ⟨y, ?_, a2, a3⟩
  have := (List.getElem?_eq_some_iff.1 a1).1
  rw [List.getElem?_append_left this]; exact a1
 ·rw [List.getElem?_append_right hi] at hc
  obtain ⟨y, a1, a2, a3⟩ := h2.2 (i - es.length) j c hc
  refine ⟨y, ?_, a2, a3⟩
  have e : i * size + j = olds.length + ((i - es.length) * size + j) := by
   rw [h1.1, Nat.sub_mul]
   have : es.length * size ≤ i * size := Nat.mul_le_mul_right _ hi
   omega
  rw [e, List.getElem?_append_right (by omega), Nat.add_sub_cancel_left]; exact a1
theorem P3 {arr cur : Array Value} {es xs : List (List LV)} {news : List Value} {size n m : Nat} (hr : rowOk G arr es size) (hz : arr.size = n * size) (hmm : es.length ≤ n) (h2 : LCells G xs size news) (s2 : ∀ e ∈ xs, e.length = size)
  (hm : m + xs.length ≤ es.length) (hc : cur.toList = arr.toList.take (m * size) ++ news ++ arr.toList.drop (m * size + news.length)) : rowOk G cur (es.take m ++ xs ++ es.drop (m + xs.length)) size := by
 have a1 := Kc (off := 0) (len := m) hr hz hmm (by omega)
 simp only [List.drop_zero, Nat.zero_mul] at a1
 have a2 := Kc (off := m + xs.length) (len := es.length - (m + xs.length)) hr hz hmm (by omega)
 have e1 : (es.drop (m + xs.length)).take (es.length - (m + xs.length)) = es.drop (m + xs.length) := List.take_of_length_le (by simp)
 rw [e1] at a2
 have e2 : m * size + news.length = (m + xs.length) * size := by rw [h2.1, Nat.add_mul]
 rw [e2] at hc
 refine Fb (olds := arr.toList.take (m * size) ++ news) (rest := (arr.toList.drop ((m + xs.length) * size)).drop ((es.length - (m + xs.length)) * size)) (a1.append h2) a2 (fun e he => (List.mem_append.1 he).elim (fun h => hr.1 e (List.mem_of_mem_take h)) (s2 e)) (fun e he => hr.1 e (List.mem_of_mem_drop he)) ?_
 rw [hc, List.append_assoc _ (List.take _ _), List.take_append_drop]
theorem I8 {n : Nat} {es : List (List LV)} (h : Ky n es = true) : ∀ e ∈ es, e.length = n := by
 intro e he
 have := List.all_eq_true.1 h e he
 simpa using this
theorem I9 {s x : Operand} {ty u e : TypeId} {d : TypeDesc} (ho : o.op = .call { callee := .builtin .append, args := #[s, x], argTypes := #[ty, u] })
  (ht : P.underlying ty = some (.slice e)) (hd : P.underlying u = some d) (hdi : ∀ k, d ≠ .int k) {i : TypeInfo} (hi : P.info? e = some i) {z : Value} (hz : i.zero = some z) (hzs : z.cells.size = i.size)
  {s' x' : LX} (hs' : A3 s = some s') (hx' : A3 x = some x') (hr : Ij i.size i.bytes st (s'.ev t) (x'.ev t) = some (v, st'))
  (h : WR G st w) (hx : XsR G t a o.op) : B1 P o a w (Good G st w v st') := by
 have hs1 := hx s (by rw [ho]; simp [Op.operands, Call.operands]) s' hs'
 have hx1 := hx x (by rw [ho]; simp [Op.operands, Call.operands]) x' hx'
 have key : ∀ (r : Value) (w' : World), (Builtin.append_ #[ty, u] o.type #[a.eval s, a.eval x]).run P w = .ok r w' → (execOp a.eval o).run P w = .ok (.value r) w' := by
  intro r w' hrun
  simp [execOp, ho, resolve, invoke, builtin, hrun]
 unfold Ij at hr
 split at hr
 ·cases hr
 rename_i xs hap
 split at hr
 ·cases hr
 rename_i hsz
 have hxs := I8 (n := i.size) (es := xs) (by simpa using hsz)
 obtain ⟨news, hn1, hn2, hn3⟩ := Mt (P := P) h hap hxs hx1
 have hone := hn1.one hxs
 have hw : WR G st w.drew := h.of_heap rfl
 split at hr
 ·-- nothing ahead
  rename_i heq
  rw [heq] at hs1
  obtain ⟨ad, hu, hvp⟩ := hs1.tight_inv
  split at hr
  ·rename_i hemp
   have : xs = [] := by simpa using hemp
   subst this
   cases hr
   have hnn' : news = [] := List.eq_nil_of_length_eq_zero (by simpa using hn1.1)
   subst hnn'
   refine As (key _ w ?_) (.same h hs1)
   rw [hu]
   exact Eh ht hd hdi hi (Nat.le_refl _) hn2 (hn3 w rfl)
  ·rename_i hemp
   split at hr
   ·rename_i hc
    obtain ⟨c2, c3, c4⟩ := hc
    cases hr
    have hpos : 0 < xs.length := by rcases xs with _ | _; · simp at hemp
                                    ·simp
    have holds : (Builtin.firstCells i.size 0 (.slice ad 0 0)).run P w.drew = .ok ([] : List Value).toArray w.drew := by
     cases ad with
     | none => simp [Builtin.firstCells]
     | some ad => exact run_firstCells_some (P := P) w.drew i.size 0 ad 0 0 [] (by simp) (fun k y hk => by simp at hk)
    have hrun := J9 (P := P) (w := w) (rt := o.type) ht hd hdi hi hz (base := ad) (sLen := 0) (sCap := 0) (olds := []) holds hn2 (hn3 w.drew rfl) (by omega) (by omega) (by rw [Nat.zero_add]; exact c2)
    rw [Nat.zero_add] at hrun
    generalize hcap : grownCap w xs.length 0 e = cap at hrun
    have hge : xs.length ≤ cap := by rw [← hcap]; exact grownCap_ge ..
    have hle : cap ≤ maxLen := by rw [← hcap]; exact grownCap_le_maxLen _ _ _ _ c3
    generalize harr : ([] : List Value).toArray ++ news.toArray ++ Builtin.zeroCells z.cells (cap - xs.length) = arr at hrun
    have hal : arr.toList = [] ++ news ++ (Builtin.zeroCells z.cells (cap - xs.length)).toList := by rw [← harr]; simp
    have hasz : arr.size = cap * i.size := by
     rw [← harr]; simp only [Array.size_append, List.size_toArray, List.length_nil, hn1.1, Fr, hzs, Nat.zero_add]
     rw [← Nat.add_mul]; congr 1; omega
    have hrow : rowOk G arr xs i.size := by
     have := Fb (G := G) (arr := arr) (es := []) (xs := xs) (olds := []) (size := i.size) ⟨by simp, fun i j c h => by simp [at2] at h⟩ hn1 (by simp) hxs hal
     simpa using this
    obtain ⟨r1, r2⟩ := hw.newObj (.row xs) (.row w.drew.heap.size i.size cap) (.cells arr e) (.inl ⟨xs, i.size, cap, arr, e, rfl, rfl, rfl, hasz, hge, hrow⟩)
    refine As (key _ _ (by rw [hu]; exact hrun)) ⟨_, r1, ?_, (Ext.of_heap (w := w) (w' := w.drew) rfl rfl rfl rfl).trans r2⟩
    have hv := VL.rs (G := G.addLoc st.length (.row w.drew.heap.size i.size cap)) (o := st.length) (off := 0) (len := xs.length) (cap := cap) (by simp [Gh.addLoc]; exact ⟨rfl, rfl, rfl⟩) hle hge (by omega)
    simpa using hv
   ·cases hr
 ·-- behind an object's elements
  rename_i q len heq
  rw [heq] at hs1
  obtain ⟨blk, size, n, cap, hloc, hu, hm, hlc, hnn⟩ := hs1.rs_inv
  split at hr
  ·rename_i es hes
   obtain ⟨blk', size', n', e5, arr, ty', hb, hasz, hmm, hrw⟩ := h.row q es hes _ hloc
   cases e5
   split at hr
   ·rename_i hemp
    have : xs = [] := by simpa using hemp
    subst this
    cases hr
    have hnn' : news = [] := List.eq_nil_of_length_eq_zero (by simpa using hn1.1)
    subst hnn'
    refine As (key _ w ?_) (.same h hs1)
    rw [hu]
    exact Eh ht hd hdi hi hlc hn2 (hn3 w rfl)
   ·rename_i hemp
    split at hr
    ·rename_i hc
     obtain ⟨rfl, c0, c1, c2, c3, c4⟩ := hc
     cases hr
     have hpos : 0 < xs.length := by rcases xs with _ | _; · simp at hemp
                                     ·simp
     have hes' := I8 c1
     by_cases h0 : es = []
     ·-- the object holds nothing
      subst h0
      simp at c0
     ·have hse : size = i.size := by
       obtain ⟨e0, r0, rfl⟩ := List.exists_cons_of_ne_nil h0
       have h1 := hrw.1 e0 (by simp)
       have h2 := hes' e0 (by simp)
       omega
      subst hse
      have holds := Kc (off := 0) (len := es.length) hrw hasz hmm (by omega)
      simp only [List.drop_zero, List.take_length, Nat.zero_mul] at holds hu
      by_cases hroom : es.length + xs.length ≤ cap
      ·have hfit : 0 + es.length * i.size + news.length ≤ arr.size := by
        rw [hasz, hn1.1, Nat.zero_add, ← Nat.add_mul]
        exact Nat.mul_le_mul_right _ (by omega)
       have hrun := Nk (P := P) (w := w) (rt := o.type) ht hd hdi hi (b := blk) (off := 0) (sLen := es.length) (sCap := cap) hb hn2 (hn3 w rfl) hone hroom hfit
       rw [Nat.zero_add] at hrun hfit
       generalize hcur : (arr.toList.take (es.length * i.size) ++ news ++ arr.toList.drop (es.length * i.size + news.length)) = cur at hrun
       have hcl : cur.length = arr.size := by rw [← hcur]; simp only [List.length_append, List.length_take, List.length_drop, Array.length_toList]; omega
       have hrow : rowOk G cur.toArray (es ++ xs) i.size := Fb holds hn1 hes' hxs (by simpa using hcur.symm)
       have hsb : F3 blk w (w.setRow blk cur.toArray) := ⟨by simp [World.setRow], fun c hc => setRow_other w blk c _ hc, rfl, rfl, rfl⟩
       obtain ⟨r1, r2⟩ := h.setObj hes hloc (x' := .row (es ++ xs)) (ob := .cells cur.toArray ty' (0, 0))
        (.inl ⟨es, _, i.size, n, cur.toArray, ty', rfl, rfl, rfl, rfl, by simp [hcl, hasz], by simp; omega, hrow⟩) hsb (setRow_heap w blk arr _ ty' _ hb)
       have hlt := (List.getElem?_eq_some_iff.1 hes).1
       obtain ⟨m1, m2⟩ := r1.move (o := q) (b := blk) (size := i.size) (n := n) (es := es ++ xs) (by rw [List.getElem?_set_self hlt]) hloc
       rw [List.set_set, List.length_set] at m1 m2
       refine As (key _ _ (by rw [hu]; exact hrun)) ⟨_, m1, ?_, r2.trans m2⟩
       have hv := VL.rs (G := G.addLoc st.length (.row blk i.size n)) (o := st.length) (off := 0) (len := es.length + xs.length) (cap := cap) (by simp [Gh.addLoc]; exact ⟨rfl, rfl, rfl⟩) hm hroom (by omega)
       simpa using hv
      ·have hold2 : (Builtin.firstCells i.size es.length (.slice (some ⟨blk, 0, none⟩) es.length cap)).run P w.drew = .ok (arr.toList.take (es.length * i.size)).toArray w.drew := by
        have := Kd (P := P) (w' := w.drew) (off := 0) (len := es.length) (size := i.size) (n := n) (cap := cap) (arr := arr) (blk := blk) hb hasz (by omega)
        simpa using this
       have hrun := J9 (P := P) (w := w) (rt := o.type) ht hd hdi hi hz hold2 hn2 (hn3 w.drew rfl) (by omega) c3 c2
       generalize hcap : grownCap w (es.length + xs.length) cap e = cap' at hrun
       have hge : es.length + xs.length ≤ cap' := by rw [← hcap]; exact grownCap_ge ..
       have hle : cap' ≤ maxLen := by rw [← hcap]; exact grownCap_le_maxLen _ _ _ _ c3
       generalize harr : (arr.toList.take (es.length * i.size)).toArray ++ news.toArray ++ Builtin.zeroCells z.cells (cap' - (es.length + xs.length)) = arr' at hrun
       have hal : arr'.toList = arr.toList.take (es.length * i.size) ++ news ++ (Builtin.zeroCells z.cells (cap' - (es.length + xs.length))).toList := by rw [← harr]; simp
       have hasz' : arr'.size = cap' * i.size := by
        rw [← harr]; simp only [Array.size_append, List.size_toArray, hn1.1, holds.1, Fr, hzs]
        rw [← Nat.add_mul, ← Nat.add_mul]; congr 1; omega
       have hrow : rowOk G arr' (es ++ xs) i.size := Fb holds hn1 hes' hxs hal
       obtain ⟨⟨k1, k2⟩, _⟩ := hw.kill hloc hes
       obtain ⟨r1, r2⟩ := k1.newObj (.row (es ++ xs)) (.row w.drew.heap.size i.size cap') (.cells arr' e) (.inl ⟨_, i.size, cap', arr', e, rfl, rfl, rfl, hasz', by simpa using hge, hrow⟩)
       rw [List.length_set] at r1 r2
       refine As (key _ _ (by rw [hu]; exact hrun)) ⟨_, r1, ?_, (Ext.of_heap (w := w) (w' := w.drew) rfl rfl rfl rfl).trans (k2.trans r2)⟩
       have hv := VL.rs (G := G.addLoc st.length (.row w.drew.heap.size i.size cap')) (o := st.length) (off := 0) (len := es.length + xs.length) (cap := cap') (by simp [Gh.addLoc]; exact ⟨rfl, rfl, rfl⟩) hle hge (by omega)
       simpa using hv
    ·split at hr
     ·rename_i hc
      obtain ⟨c0, c1, c4⟩ := hc
      cases hr
      have hpos : 0 < xs.length := by rcases xs with _ | _; · simp at hemp
                                      ·simp
      have hes' := I8 c1
      have h0 : es ≠ [] := by intro q; have := congrArg List.length q; simp only [List.length_nil] at this; omega
      have hse : size = i.size := by
       obtain ⟨e0, r0, rfl⟩ := List.exists_cons_of_ne_nil h0
       have h1 := hrw.1 e0 (by simp)
       have h2 := hes' e0 (by simp)
       omega
      subst hse
      simp only [Nat.zero_mul] at hu
      have hroom : len + xs.length ≤ cap := by omega
      have hfit : 0 + len * i.size + news.length ≤ arr.size := by
       rw [hasz, hn1.1, Nat.zero_add, ← Nat.add_mul]
       exact Nat.mul_le_mul_right _ (by omega)
      have hrun := Nk (P := P) (w := w) (rt := o.type) ht hd hdi hi (b := blk) (off := 0) (sLen := len) (sCap := cap) hb hn2 (hn3 w rfl) hone hroom hfit
      rw [Nat.zero_add] at hrun hfit
      generalize hcur : (arr.toList.take (len * i.size) ++ news ++ arr.toList.drop (len * i.size + news.length)) = cur at hrun
      have hcl : cur.length = arr.size := by rw [← hcur]; simp only [List.length_append, List.length_take, List.length_drop, Array.length_toList]; omega
      have hrow : rowOk G cur.toArray (es.take len ++ xs ++ es.drop (len + xs.length)) i.size := P3 hrw hasz hmm hn1 hxs c0 (by simpa using hcur.symm)
      have hsb : F3 blk w (w.setRow blk cur.toArray) := ⟨by simp [World.setRow], fun c hc => setRow_other w blk c _ hc, rfl, rfl, rfl⟩
      obtain ⟨r1, r2⟩ := h.setObj hes hloc (x' := .row (es.take len ++ xs ++ es.drop (len + xs.length))) (ob := .cells cur.toArray ty' (0, 0))
       (.inl ⟨es, _, i.size, n, cur.toArray, ty', rfl, rfl, rfl, rfl, by simp [hcl, hasz], by simp; omega, hrow⟩) hsb (setRow_heap w blk arr _ ty' _ hb)
      refine As (key _ _ (by rw [hu]; exact hrun)) ⟨_, r1, ?_, r2⟩
      have hv := VL.rs (G := G) (o := q) (off := 0) (len := len + xs.length) (cap := cap) hloc hm hroom hnn
      simpa using hv
     ·cases hr
  ·cases hr
 ·cases hr
end ops
end Go.LS
set_option linter.unusedVariables false
set_option linter.unusedSimpArgs false
namespace Go.LS
theorem Ext0.refl' {G : Gh} {st : List LObj} {w : World} : Ext0 G st w G st w := (Ext.refl ..).to0
theorem frzC_rs (st : List LObj) (o off len : Nat) : Mo st (.rs o off len) = (.rs o off len, st) ∨ ∃ es qs, st[o]? = some (.row es) ∧ off + len ≤ es.length ∧ E9 ((es.drop off).take len) = some qs ∧ Mo st (.rs o off len) = (.p (.sl qs), st.set o .dead) := by
 cases hs : st[o]? with
 | none => left; simp only [Mo, hs]
 | some x =>
  cases x with
  | row es =>
   by_cases hl : off + len ≤ es.length
   ·cases hq : E9 ((es.drop off).take len) with
    | none => left; simp only [Mo, hs, if_pos hl, hq]
    | some qs => right; exact ⟨es, qs, rfl, hl, hq, by simp only [Mo, hs, if_pos hl, hq]⟩
   ·left; simp only [Mo, hs, if_neg hl]
  | _ => left; simp only [Mo, hs]
theorem Nr {G : Gh} {st : List LObj} {w : World} {v : LV} {u : Value} (h : WR G st w) (hv : VL G v u) :
  ∃ G', G.le G' ∧ WR G' (Mo st v).2 w ∧ VL G' (Mo st v).1 u ∧ Ext0 G st w G' (Mo st v).2 w := by
 cases v
 case rs o off len =>
  rcases frzC_rs st o off len with e | ⟨es, qs, hs, hl, hq, e⟩
  ·rw [e]; exact ⟨G, .refl G, h, hv, Ext0.refl'⟩
  ·rw [e]
   obtain ⟨blk, size, n, cap, hloc, hu, hm, hlc, hnn⟩ := hv.rs_inv
   obtain ⟨blk', size', n', e', arr, ty, hb, hz, hen, hr⟩ := h.row o es hs _ hloc
   cases e'
   obtain ⟨r1, r2⟩ := h.retire hs hloc hb ⟨rfl, fun _ _ => rfl, rfl, rfl, rfl⟩ hb
   refine ⟨_, Gh.le_addF .., r1, .p ?_, r2.to0⟩
   rw [hu]
   obtain ⟨q1, q2⟩ := Gi hq
   have hlen : qs.length = len := by rw [q1]; simp; omega
   have hsz : ∀ e ∈ qs, e.length = size := F5 hq (fun e he => hr.1 e (List.mem_of_mem_drop (List.mem_of_mem_take he)))
   rw [← hlen]
   refine VP.mk (size := size) (by omega) hm hsz ?_
   intro i j p hp
   obtain ⟨c, hc1, hc2⟩ := q2 i j p hp
   have hc3 : at2 es (off + i) j = some c := by
    unfold at2 at hc1 ⊢
    rw [List.getElem?_take] at hc1
    split at hc1
    ·rw [List.getElem?_drop] at hc1; exact hc1
    ·simp at hc1
   obtain ⟨u, hu1, hu2, _⟩ := hr.2 (off + i) j c hc3
   refine ⟨u, ?_, (Dx hc2 hu2).mono (Gh.le_addF ..).F⟩
   simp only [Gh.addF]
   have hF : G.F blk (off * size + i * size + j) = none := h.ownF o blk (by unfold Owns; rw [hs]; exact ⟨size, n, hloc⟩) (by rintro ⟨a, b, e⟩; rw [hs] at e; cases e) _
   rw [hF]
   simp only [if_true]
   rw [← hu1]
   congr 1
   rw [Nat.add_mul]
 all_goals exact ⟨G, .refl G, h, hv.weak1, Ext0.refl'⟩
theorem L5 : ∀ {cs : List LV} {G : Gh} {st : List LObj} {w : World} {us : List Value}, WR G st w → us.length = cs.length → (∀ (i : Nat) v u, cs[i]? = some v → us[i]? = some u → VL G v u) →
  ∃ G', G.le G' ∧ WR G' (Lw st cs).2 w ∧ us.length = (Lw st cs).1.length ∧ (∀ (i : Nat) v u, (Lw st cs).1[i]? = some v → us[i]? = some u → VL G' v u) ∧ Ext0 G st w G' (Lw st cs).2 w
 | [], G, st, w, us, h, hl, hv => ⟨G, .refl G, h, hl, by simp [Lw], Ext0.refl'⟩
 | c :: r, G, st, w, us, h, hl, hv => by
  cases us with
  | nil => simp at hl
  | cons u us =>
   obtain ⟨G1, a1, a2, a3, a4⟩ := Nr h (hv 0 c u rfl rfl)
   obtain ⟨G2, b1, b2, b3, b4, b5⟩ := L5 (cs := r) (us := us) a2 (by simpa using hl) (fun i v x h1 h2 => (hv (i + 1) v x (by simpa using h1) (by simpa using h2)).mono a1)
   simp only [Lw]
   refine ⟨G2, a1.trans b1, b2, by simp [b3], fun i v x h1 h2 => ?_, a4.trans b5⟩
   cases i with
   | zero => simp at h1 h2; subst h1 h2; exact a3.mono b1
   | succ i => exact b4 i v x (by simpa using h1) (by simpa using h2)
theorem Ns {G : Gh} {st : List LObj} {w : World} {v : LV} {u : Value} (h : WR G st w) (hv : VL G v u) :
  ∃ G', G.le G' ∧ WR G' (Xq st v).2 w ∧ VL G' (Xq st v).1 u ∧ Ext0 G st w G' (Xq st v).2 w := by
 cases v
 case agg cs =>
  cases hv with
  | agg vs h1 h2 h3 =>
   obtain ⟨G1, a1, a2, a3, a4, a5⟩ := L5 (cs := cs) (us := vs.toList) h (by simp [h1]) (fun i v x g1 g2 => by
    have := h3 i v g1
    rw [Array.getElem?_toList] at g2
    rw [Array.getD_eq_getD_getElem?, g2] at this
    exact this)
   simp only [Xq]
   refine ⟨G1, a1, a2, .agg vs (by simpa using a3) h2 (fun i x hx => ?_), a5⟩
   have hi : i < vs.size := by
    have := (List.getElem?_eq_some_iff.1 hx).1
    rw [← a3] at this
    simpa using this
   have := a4 i x vs[i] hx (by rw [Array.getElem?_toList]; exact Array.getElem?_eq_getElem hi)
   rw [Array.getD_eq_getD_getElem?, Array.getElem?_eq_getElem hi]
   exact this
 all_goals exact Nr h hv
theorem Ja : ∀ {cs : List LV} {G : Gh} {st : List LObj} {w : World} {us : List Value}, WR G st w → us.length = cs.length → (∀ (i : Nat) v u, cs[i]? = some v → us[i]? = some u → VL G v u) →
  ∃ G', G.le G' ∧ WR G' (Pv st cs).2 w ∧ us.length = (Pv st cs).1.length ∧ (∀ (i : Nat) v u, (Pv st cs).1[i]? = some v → us[i]? = some u → VL G' v u) ∧ Ext0 G st w G' (Pv st cs).2 w
 | [], G, st, w, us, h, hl, hv => ⟨G, .refl G, h, hl, by simp [Pv], Ext0.refl'⟩
 | c :: r, G, st, w, us, h, hl, hv => by
  cases us with
  | nil => simp at hl
  | cons u us =>
   obtain ⟨G1, a1, a2, a3, a4⟩ := Ns h (hv 0 c u rfl rfl)
   obtain ⟨G2, b1, b2, b3, b4, b5⟩ := Ja (cs := r) (us := us) a2 (by simpa using hl) (fun i v x h1 h2 => (hv (i + 1) v x (by simpa using h1) (by simpa using h2)).mono a1)
   simp only [Pv]
   refine ⟨G2, a1.trans b1, b2, by simp [b3], fun i v x h1 h2 => ?_, a4.trans b5⟩
   cases i with
   | zero => simp at h1 h2; subst h1 h2; exact a3.mono b1
   | succ i => exact b4 i v x (by simpa using h1) (by simpa using h2)
theorem Xv {b : Bool} {cs : List LV} {G : Gh} {st : List LObj} {w : World} {us : List Value} (h : WR G st w) (hl : us.length = cs.length) (hv : ∀ (i : Nat) v u, cs[i]? = some v → us[i]? = some u → VL G v u) :
  ∃ G', G.le G' ∧ WR G' (frz b st cs).2 w ∧ us.length = (frz b st cs).1.length ∧ (∀ (i : Nat) v u, (frz b st cs).1[i]? = some v → us[i]? = some u → VL G' v u) ∧ Ext0 G st w G' (frz b st cs).2 w := by
 cases b
 ·exact ⟨G, .refl G, h, hl, hv, Ext0.refl'⟩
 ·exact Ja h hl hv
theorem Uc {G : Gh} {st : List LObj} {w : World} {v : LV} {u : Value} (h : WR G st w) (hv : VL G v u) :
  ∃ G', G.le G' ∧ WR G' (Tz st v).2 w ∧ VL G' (Tz st v).1 u ∧ Ext0 G st w G' (Tz st v).2 w := by
 cases v
 case tup cs =>
  cases hv with
  | tup vs h1 h3 =>
   obtain ⟨G1, a1, a2, a3, a4, a5⟩ := Ja (cs := cs) (us := vs.toList) h (by simp [h1]) (fun i v x g1 g2 => by
    have := h3 i v g1
    rw [Array.getElem?_toList] at g2
    rw [Array.getD_eq_getD_getElem?, g2] at this
    exact this)
   simp only [Tz]
   refine ⟨G1, a1, a2, .tup vs (by simpa using a3) (fun i x hx => ?_), a5⟩
   have hi : i < vs.size := by
    have := (List.getElem?_eq_some_iff.1 hx).1
    rw [← a3] at this
    simpa using this
   have := a4 i x vs[i] hx (by rw [Array.getElem?_toList]; exact Array.getElem?_eq_getElem hi)
   rw [Array.getD_eq_getD_getElem?, Array.getElem?_eq_getElem hi]
   exact this
 all_goals exact Ns h hv
theorem Xw {P : Program} {call : CallF} (hok : Ei P call) : Ei P (Fk call) := by
 intro f args st res st' h
 unfold Fk at h
 simp only at h
 split at h
 ·rename_i r st1 hc
  obtain ⟨hp, hq⟩ := hok _ _ _ _ _ hc
  refine ⟨hp, fun G w us hw ha => ?_⟩
  split at h
  ·rename_i r2 st3 hg
   cases h
   refine (hq G w us hw ha).mono ?_
   rintro e w' ⟨u, G1, he, k1, k2, k3⟩
   obtain ⟨G2, a1, a2, a3, a4⟩ := Uc k1 k2
   obtain ⟨G3, b1, b2, b3, b4⟩ := Np (vs := [(Tz st1 r).1]) (us := [u]) a2 (k3.trans a4) hw.dom hg rfl (fun i v x h1 h2 => by
    cases i with
    | zero => simp at h1 h2; subst h1 h2; exact a3
    | succ i => simp at h1)
   exact ⟨u, G3, he, b1, b4 0 _ u rfl rfl, b2⟩
  ·cases h
 ·cases h
end Go.LS

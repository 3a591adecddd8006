/- The bytes of a string; literals; make; maps. -/
import Derived.Test.YthiilhepneddpaaLsSound6
set_option linter.unusedVariables false
set_option linter.unusedSimpArgs false
namespace Go.LS
section ops
variable {P : Program} {G : Gh} {st st' : List LObj} {w : World} {t : List LV} {a : Act} {o : Oper} {v : LV}

theorem op_s2b {src dst e : TypeId} {x : Operand} (ho : o.op = .convert src dst x) (hs : P.underlying src = some .string) (hd : P.underlying dst = some (.slice e)) (he : P.underlying e = some (.int .u8))
    {y : LX} (hy : compX x = some y) {l : List UInt8} (hv : y.ev t = .p (.str l)) (hl : l.length ≤ 140737488355328) (h : WR G st w) (hx : XsR G t a o.op) :
    OpTo P o a w (Good G st w (.p (.sl (bs l))) st) := by
  have h1 := hx x (by rw [ho]; simp [Op.operands]) y hy
  rw [hv] at h1
  have hu := h1.str_inv
  have hrun := run_bytes_of_string (P := P) w src dst e ⟨l.toArray⟩ hs hd he
  rw [ba_size] at hrun
  generalize hcap : grownCap w l.length 0 e = cap at hrun
  have hge : l.length ≤ cap := by rw [← hcap]; exact grownCap_ge ..
  have hle : cap ≤ maxLen := by rw [← hcap]; exact grownCap_le_maxLen _ _ _ _ (by simp only [maxLen]; omega)
  have hw : WR G st w.drew := h.of_heap rfl
  obtain ⟨r1, r2⟩ := hw.newF (bytesRow ⟨l.toArray⟩ cap) e ((bytesRow ⟨l.toArray⟩ cap).size, (bytesRow ⟨l.toArray⟩ cap).size + 1)
  refine opTo_value (by simp only [execOp, ho, hu, Sem.run_bind, hrun, Result.andThen_ok, Sem.run_pure]; rfl) ⟨_, r1, .p ?_, (Ext.of_heap (w := w) (w' := w.drew) rfl rfl rfl rfl).trans r2⟩
  have hlen : l.length = (bs l).length := by simp [bs]
  rw [hlen]
  refine VP.mk (size := 1) (by rw [← hlen]; exact hge) hle (fun e he => by simp only [bs, List.mem_map] at he; obtain ⟨b, _, rfl⟩ := he; rfl) ?_
  intro i j p hp
  have hb := at2_lt (size := 1) (fun e he => by simp only [bs, List.mem_map] at he; obtain ⟨b, _, rfl⟩ := he; rfl) hp
  obtain rfl : j = 0 := by omega
  have hi : i < l.length := by rw [hlen]; exact hb.1
  simp only [at2, bs, List.getElem?_map, List.getElem?_eq_getElem hi, Option.map_some, Option.bind_some, List.getElem?_cons_zero, Option.some.injEq] at hp
  subst hp
  refine ⟨.int .u8 l[i].toNat, ?_, .int _ _⟩
  simp only [Gh.addF]
  cases hg : G.F w.heap.size (0 + i * 1 + 0) with
  | some v => have := h.fr_lt hg; omega
  | none =>
    simp [bytesRow, hi, Array.getElem?_append]

/-! Literals of structs and arrays. -/
theorem fold_set (vs : List Value) (off : Nat) : ∀ (k : Nat) (cells : Array Value) (i : Nat),
    ((vs.zipIdx k).foldl (fun cs (x : Value × Nat) => cs.setIfInBounds (off + x.2) x.1) cells)[i]? =
      if off + k ≤ i ∧ i < off + k + vs.length ∧ i < cells.size then vs[i - (off + k)]? else cells[i]? := by
  induction vs with
  | nil => intro k cells i; simp; omega
  | cons v vs ih =>
    intro k cells i
    rw [List.zipIdx_cons, List.foldl_cons, ih]
    simp only [Array.size_setIfInBounds, List.length_cons]
    by_cases h1 : off + (k + 1) ≤ i ∧ i < off + (k + 1) + vs.length ∧ i < cells.size
    · rw [if_pos h1, if_pos (by omega)]
      rw [show i - (off + k) = (i - (off + (k + 1))) + 1 by omega]
      simp
    · rw [if_neg h1]
      by_cases h2 : i = off + k
      · subst h2
        by_cases h3 : off + k < cells.size
        · rw [if_pos (by omega)]; simp [h3]
        · rw [if_neg (by omega)]
          rw [Array.getElem?_eq_none (by simp; omega), Array.getElem?_eq_none (by omega)]
      · rw [if_neg (by omega)]
        rw [Array.getElem?_setIfInBounds_ne (by omega)]

theorem fold_size (vs : List Value) (off : Nat) : ∀ (k : Nat) (cells : Array Value), ((vs.zipIdx k).foldl (fun cs (x : Value × Nat) => cs.setIfInBounds (off + x.2) x.1) cells).size = cells.size := by
  induction vs with
  | nil => intro k cells; rfl
  | cons v vs ih => intro k cells; rw [List.zipIdx_cons, List.foldl_cons, ih]; simp

theorem CellsR.put {z cs : List LV} {arr vs : Array Value} (hz : CellsR G z arr) (hc : CellsR G cs vs) (off : Nat) (hl : off + cs.length ≤ z.length) :
    CellsR G (z.take off ++ cs ++ z.drop (off + cs.length)) (vs.toList.zipIdx.foldl (fun cs (x : Value × Nat) => cs.setIfInBounds (off + x.2) x.1) arr) := by
  refine ⟨by rw [fold_size, hz.1]; simp only [List.length_append, List.length_take, List.length_drop]; omega, fun i x hx => ?_⟩
  rw [take_drop_get z cs off i hl] at hx
  rw [fold_set vs.toList off 0 arr i]
  have h1 := hc.1
  have h2 := hz.1
  split at hx
  · rename_i hi
    obtain ⟨y, a1, a2⟩ := hc.2 _ x hx
    refine ⟨y, ?_, a2⟩
    rw [if_pos ⟨by omega, by simp; omega, by omega⟩]
    simpa using a1
  · rename_i hi
    obtain ⟨y, a1, a2⟩ := hz.2 i x hx
    refine ⟨y, ?_, a2⟩
    rw [if_neg (by simp; omega)]
    exact a1

theorem fill_sound (place : Nat → Option (Nat × Nat)) : ∀ {parts : List (Nat × Operand)} {ps : List (Nat × Nat × LX)} {qs : List (Nat × Nat × List LV)} {z cs : List LV} {arr : Array Value},
    ps.length = parts.length → (∀ (k i : Nat) x, parts[k]? = some (i, x) → ∃ off n y, ps[k]? = some (off, n, y) ∧ place i = some (off, n) ∧ compX x = some y) →
    (∀ i x, (i, x) ∈ parts → ∀ y, compX x = some y → VL G (y.ev t) (a.eval x)) → evParts t ps = some qs → setParts z qs = some cs → CellsR G z arr →
    ∃ arr', Instr.fill place arr (parts.map fun p => (p.1, a.eval p.2)) = some arr' ∧ CellsR G cs arr'
  | [], ps, qs, z, cs, arr, hl, hp, hx, he, hs, hz => by
    obtain rfl : ps = [] := by simpa using hl
    simp only [evParts] at he; cases he
    simp only [setParts] at hs; cases hs
    exact ⟨arr, rfl, hz⟩
  | (i, x) :: r, ps, qs, z, cs, arr, hl, hp, hx, he, hs, hz => by
    obtain ⟨off, n, y, hps, hpl, hy⟩ := hp 0 i x rfl
    cases ps with
    | nil => simp at hps
    | cons q ps =>
      simp at hps; subst hps
      simp only [evParts] at he
      split at he
      · rename_i c l hc hl'
        cases he
        simp only [setParts] at hs
        split at hs
        · rename_i hn
          have hcr := cells_sound hc (hx i x (by simp) y hy)
          have hput := hz.put hcr off (by omega)
          rw [hn.1] at hput
          obtain ⟨arr', h1, h2⟩ := fill_sound place (parts := r) (ps := ps) (by simpa using hl) (fun k i x hk => by simpa using hp (k + 1) i x (by simpa using hk)) (fun i x hm => hx i x (by simp [hm])) hl' hs hput
          refine ⟨arr', ?_, h2⟩
          have hcz : (a.eval x).cells.size = n := by rw [hcr.1]; exact hn.1
          have hz1 := hz.1
          simp only [List.map_cons, Instr.fill, hpl, hcz]
          rw [if_neg (by simp; omega)]
          rw [← h1]
          congr 1
          rw [← Array.foldl_toList]
          simp
        · cases hs
      · cases he

theorem compFields_get {fs : Array Field} : ∀ {l : List (Nat × Operand)} {ps : List (Nat × Nat × LX)}, compFields P fs l = some ps → ps.length = l.length ∧ ∀ (k i : Nat) x, l[k]? = some (i, x) →
    ∃ off n y, ps[k]? = some (off, n, y) ∧ (∃ f inf, fs[i]? = some f ∧ P.info? f.type = some inf ∧ off = f.offset ∧ n = inf.size) ∧ compX x = some y
  | [], ps, h => by simp only [compFields] at h; cases h; exact ⟨rfl, by simp⟩
  | (i, x) :: r, ps, h => by
    simp only [compFields] at h
    split at h
    · rename_i f y l hf hy hl
      split at h
      · rename_i inf hi
        cases h
        obtain ⟨h1, h2⟩ := compFields_get hl
        refine ⟨by simp [h1], fun k i' x' hk => ?_⟩
        cases k with
        | zero => simp at hk; obtain ⟨rfl, rfl⟩ := hk; exact ⟨_, _, _, rfl, ⟨f, inf, hf, hi, rfl, rfl⟩, hy⟩
        | succ k => simpa using h2 k i' x' (by simpa using hk)
      · cases h
    · cases h

theorem compElems_get {size : Nat} : ∀ {l : List (Nat × Operand)} {ps : List (Nat × Nat × LX)}, compElems size l = some ps → ps.length = l.length ∧ ∀ (k i : Nat) x, l[k]? = some (i, x) →
    ∃ off n y, ps[k]? = some (off, n, y) ∧ (off = i * size ∧ n = size) ∧ compX x = some y
  | [], ps, h => by simp only [compElems] at h; cases h; exact ⟨rfl, by simp⟩
  | (i, x) :: r, ps, h => by
    simp only [compElems] at h
    split at h
    · rename_i y l hy hl
      cases h
      obtain ⟨h1, h2⟩ := compElems_get hl
      refine ⟨by simp [h1], fun k i' x' hk => ?_⟩
      cases k with
      | zero => simp at hk; obtain ⟨rfl, rfl⟩ := hk; exact ⟨_, _, _, rfl, ⟨rfl, rfl⟩, hy⟩
      | succ k => simpa using h2 k i' x' (by simpa using hk)
    · cases h

theorem zeroOf_inv {e : TypeId} {z : List LV} (h : zeroOf P e = some z) : ∃ i zv, P.info? e = some i ∧ i.zero = some zv ∧ ∀ G, CellsR G z zv.cells := by
  unfold zeroOf at h
  split at h
  · rename_i i hi
    split at h
    · rename_i zv hz
      exact ⟨i, zv, hi, hz, fun G => by have := constCells_sound G h; simpa using this⟩
    · cases h
  · cases h

theorem run_places {fs : Array Field} (hall : allInfo P fs = true) (w : World) :
    (fs.mapM fun f => (do pure (f.offset, ← sizeOf f.type) : Sem (Nat × Nat))).run P w = .ok (fs.map fun f => (f.offset, ((P.info? f.type).map (·.size)).getD 0)) w := by
  have hl : ∀ (l : List Field), (∀ f ∈ l, (P.info? f.type).isSome = true) → (l.mapM fun f => (do pure (f.offset, ← sizeOf f.type) : Sem (Nat × Nat))).run P w = .ok (l.map fun f => (f.offset, ((P.info? f.type).map (·.size)).getD 0)) w := by
    intro l hl
    induction l with
    | nil => simp [List.mapM_nil]
    | cons f r ih =>
      obtain ⟨i, hi⟩ := Option.isSome_iff_exists.1 (hl f (by simp))
      rw [List.mapM_cons]
      simp only [Sem.run_bind, sizeOf, typeInfo, run_program, Result.andThen_ok, hi, Sem.run_pure]
      have := ih (fun f hf => hl f (by simp [hf]))
      simp only [sizeOf, typeInfo] at this
      rw [this]
      simp [hi]
  have h := hl fs.toList (fun f hf => List.all_eq_true.1 hall f hf)
  obtain ⟨l⟩ := fs
  rw [List.mapM_toArray, ← bind_pure_comp]
  simp only [Sem.run_bind, h, Result.andThen_ok, Sem.run_pure]
  simp

theorem op_build_struct {ty : TypeId} {parts : Array (Nat × Operand)} (ho : o.op = .build ty parts) {fs : Array Field} (hty : P.underlying ty = some (.struct fs)) (hall : allInfo P fs = true)
    {z : List LV} (hz : zeroOf P ty = some z) {ps : List (Nat × Nat × LX)} (hps : compFields P fs parts.toList = some ps) {qs : List (Nat × Nat × List LV)} (hq : evParts t ps = some qs)
    {cs : List LV} (hcs : setParts z qs = some cs) (h : WR G st w) (hx : XsR G t a o.op) : OpTo P o a w (Good G st w (.agg cs) st) := by
  obtain ⟨i, zv, hi, hzv, hzr⟩ := zeroOf_inv hz
  obtain ⟨g1, g2⟩ := compFields_get hps
  obtain ⟨arr', h1, h2⟩ := fill_sound (G := G) (t := t) (a := a) (fun k => (fs.map fun f => (f.offset, ((P.info? f.type).map (·.size)).getD 0))[k]?) g1
    (fun k i x hk => by
      obtain ⟨off, n, y, e1, ⟨f, inf, e2, e3, rfl, rfl⟩, e4⟩ := g2 k i x hk
      exact ⟨_, _, y, e1, by simp [e2, e3], e4⟩)
    (fun i x hm y hy => hx x (by rw [ho]; simp only [Op.operands, List.mem_toArray, List.mem_map]; exact ⟨(i, x), by simpa using hm, rfl⟩) y hy) hq hcs (hzr G)
  obtain ⟨arr2, hu, hc2⟩ := (⟨arr', rfl, h2⟩ : ∃ x, x = arr' ∧ CellsR G cs x)
  refine opTo_value (u := .agg arr') (w' := w) ?_ (.same h ?_)
  · have hzr' : (zeroValue ty).run P w = .ok zv w := run_zeroValue hi hzv w
    have hmap : (parts.map fun (x : Nat × Operand) => (x.1, a.eval x.2)).toList = parts.toList.map fun (x : Nat × Operand) => (x.1, a.eval x.2) := by simp
    simp only [execOp, ho, Instr.build, Sem.run_bind, hzr', Result.andThen_ok, run_underlying hty]
    rw [run_places hall w]
    simp only [Result.andThen_ok, hmap, h1, Sem.run_pure]
  · rcases ofCells_sound (agg := true) (v := .agg cs) h2 rfl with ⟨_, h⟩ | ⟨h, _⟩
    · exact h
    · cases h

end ops
end Go.LS

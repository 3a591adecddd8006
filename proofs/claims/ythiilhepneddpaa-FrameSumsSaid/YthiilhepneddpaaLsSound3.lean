/- Loads, stores, literals, slices of slices, conversions. -/
import Derived.Test.YthiilhepneddpaaLsSound2
import Derived.Laws.Slices
import Derived.Laws.RangeString
import Derived.Laws.RangeAny
set_option linter.unusedVariables false
set_option linter.unusedSimpArgs false
namespace Go.LS
section ops
variable {P : Program} {G : Gh} {st st' : List LObj} {w : World} {t : List LV} {a : Act} {o : Oper} {v : LV}

/-- What can be read at an address. -/
theorem ldAt_sound (h : WR G st w) {x : LV} {n : Nat} {cs : List LV} (hl : x.ldAt st n = some cs) {u : Value} (hu : VL G x u) :
    ∃ b off arr, u = .pointer (some ⟨b, off, none⟩) ∧ CellsR G cs arr ∧ cs.length = n ∧ ∀ (j : Nat) y, arr[j]? = some y → w.cell? ⟨b, off + j, none⟩ = some y := by
  unfold LV.ldAt at hl
  split at hl
  · rename_i q i off
    split at hl
    · rename_i es hs
      split at hl
      · rename_i el he
        split at hl
        · rename_i hlen
          cases hl
          obtain ⟨blk, size, m, hloc, rfl⟩ := hu.ptr_inv
          obtain ⟨blk', size', m', e5, arr, ty, hb, hz, hm, hr⟩ := h.row q es hs _ hloc
          cases e5
          have hsz := hr.1 el (List.mem_of_getElem? he)
          refine ⟨blk, i * size + off, arr.extract (i * size + off) (i * size + off + n), rfl, ?_, by simp; omega, ?_⟩
          · have hilt := (List.getElem?_eq_some_iff.1 he).1
            have hbig : i * size + off + n ≤ arr.size := by
              have : (i + 1) * size ≤ m * size := Nat.mul_le_mul_right _ (by omega)
              rw [Nat.add_mul] at this
              omega
            refine ⟨by simp; omega, fun j x hx => ?_⟩
            rw [List.getElem?_take] at hx
            split at hx
            · rename_i hj
              rw [List.getElem?_drop] at hx
              obtain ⟨y, h1, h2⟩ := hr.2 i (off + j) x (by simp [at2, he, hx])
              refine ⟨y, ?_, h2⟩
              rw [Array.getElem?_extract, if_pos (by omega)]
              rw [← h1]
              congr 1
              omega
            · cases hx
          · intro j y hy
            rw [Array.getElem?_extract] at hy
            split at hy
            · rw [cell_of_row w blk _ arr ty (0, 0) hb]; exact hy
            · cases hy
        · cases hl
      · cases hl
    · cases hl
  · rename_i cells off
    split at hl
    · rename_i hlen
      cases hl
      obtain ⟨b, base, vals, rfl, hF, hp⟩ := hu.pin_inv
      refine ⟨b, base + off, ((List.range n).map fun j => vals (off + j)).toArray, rfl, ?_, by simp; omega, ?_⟩
      · refine ⟨by simp; omega, fun j x hx => ?_⟩
        rw [List.getElem?_map] at hx
        cases hy : ((cells.drop off).take n)[j]? with
        | none => simp [hy] at hx
        | some y =>
          simp [hy] at hx; subst hx
          rw [List.getElem?_take] at hy
          split at hy
          · rename_i hj
            rw [List.getElem?_drop] at hy
            exact ⟨vals (off + j), by simp [hj], .p (hp _ _ hy), (hp _ _ hy).one⟩
          · cases hy
      · intro j y hy
        rw [List.getElem?_toArray, List.getElem?_map] at hy
        cases hq : (List.range n)[j]? with
        | none => simp [hq] at hy
        | some q =>
        obtain ⟨hj, rfl⟩ : j < n ∧ j = q := by
          have h1 := (List.getElem?_eq_some_iff.1 hq)
          obtain ⟨h1, h2⟩ := h1
          simp at h1 h2
          exact ⟨h1, h2⟩
        simp [hq] at hy; subst hy
        have : cells[off + j]? = some cells[off + j] := by simp
        have := h.fr _ _ _ (hF (off + j) _ this)
        rw [← this]
        congr 2
        omega
    · cases hl
  · cases hl

/-- A load of a variable. -/
theorem run_load (h : WR G st w) {ty : TypeId} {agg : Bool} {n : Nat} (hty : tyOf P ty = some (agg, n)) (hn : agg = true ∨ n = 1) {x : LV} {cs : List LV} (hl : x.ldAt st n = some cs)
    (hv : ofCells agg cs = some v) {u : Value} (hu : VL G x u) : ∃ ad z, u = .pointer (some ad) ∧ (loadVar ty ad).run P w = .ok z w ∧ VL G v z := by
  obtain ⟨b, off, arr, rfl, hc, hlen, hcell⟩ := ldAt_sound h hl hu
  obtain ⟨d, i, h1, h2, rfl, rfl⟩ := tyOf_inv hty
  refine ⟨⟨b, off, none⟩, ?_⟩
  rcases ofCells_sound hc hv with ⟨ha, hz⟩ | ⟨ha, y, he, hz, _⟩
  · refine ⟨.agg arr, rfl, ?_, hz⟩
    have hlc := run_loadCells_list (P := P) w ⟨b, off, none⟩ arr.toList (fun j y hy => by rw [Addr.add_lit]; exact hcell j y (by simpa using hy))
    have : arr.toList.length = i.size := by have := hc.1; simp; omega
    rw [this] at hlc
    simp [loadVar, run_isAgg h1, ha, sizeOf, typeInfo, h2, hlc]
  · refine ⟨y, rfl, ?_, hz⟩
    have := hcell 0 y (by simp [he])
    simp at this
    simp [loadVar, run_isAgg h1, ha, this]

theorem op_load {ty : TypeId} {x : Operand} (ho : o.op = .load ty x) {agg : Bool} {n : Nat} (hty : tyOf P ty = some (agg, n)) (hn : agg = true ∨ n = 1) {y : LX} (hy : compX x = some y)
    {cs : List LV} (hl : (y.ev t).ldAt st n = some cs) (hv : ofCells agg cs = some v) (h : WR G st w) (hx : XsR G t a o.op) : OpTo P o a w (Good G st w v st) := by
  have h1 := hx x (by rw [ho]; simp [Op.operands]) y hy
  obtain ⟨ad, z, hu, hr, hz⟩ := run_load (P := P) h hty hn hl hv h1
  refine opTo_value (u := z) (w' := w) ?_ (.same h hz)
  simp [execOp, ho, hu, Instr.loadAt, Instr.sureAddr, hr]

theorem take_drop_get {α : Type} (l cs : List α) (off j : Nat) (h : off + cs.length ≤ l.length) :
    (l.take off ++ cs ++ l.drop (off + cs.length))[j]? = if off ≤ j ∧ j < off + cs.length then cs[j - off]? else l[j]? := by
  rw [List.append_assoc]
  by_cases h1 : j < off
  · rw [if_neg (by omega), List.getElem?_append_left (by simp; omega), List.getElem?_take, if_pos h1]
  · rw [List.getElem?_append_right (by simp; omega)]
    have hl : (l.take off).length = off := by simp; omega
    rw [hl]
    by_cases h2 : j < off + cs.length
    · rw [if_pos ⟨by omega, h2⟩, List.getElem?_append_left (by omega)]
    · rw [if_neg (by omega), List.getElem?_append_right (by omega), List.getElem?_drop]
      congr 1; omega

theorem op_store {ty : TypeId} {x y : Operand} (ho : o.op = .store ty x y) {agg : Bool} {n : Nat} (hty : tyOf P ty = some (agg, n)) {x' y' : LX} (hx' : compX x = some x') (hy' : compX y = some y')
    {cs : List LV} (hc : (y'.ev t).cells? = some cs) (hn : cs.length = n) (hs : (x'.ev t).stAt st cs = some st') (h : WR G st w) (hx : XsR G t a o.op) :
    OpTo P o a w (Good G st w (.tup []) st') := by
  have h1 := hx x (by rw [ho]; simp [Op.operands]) x' hx'
  have h2 := cells_sound hc (hx y (by rw [ho]; simp [Op.operands]) y' hy')
  obtain ⟨d, inf, e1, e2, _, rfl⟩ := tyOf_inv hty
  unfold LV.stAt at hs
  split at hs
  · rename_i q i off heq
    split at hs
    · rename_i es hes
      split at hs
      · rename_i el he
        split at hs
        · rename_i hlen
          cases hs
          rw [heq] at h1
          obtain ⟨blk, size, m, hloc, hu⟩ := h1.ptr_inv
          obtain ⟨blk', size', m', e5, arr, ty', hb, hz, hm, hr⟩ := h.row q es hes _ hloc
          cases e5
          have hsz := hr.1 el (List.mem_of_getElem? he)
          have hilt := (List.getElem?_eq_some_iff.1 he).1
          have hbig : i * size + off + cs.length ≤ arr.size := by
            have : (i + 1) * size ≤ m * size := Nat.mul_le_mul_right _ (by omega)
            rw [Nat.add_mul] at this
            omega
          generalize hnew : (a.eval y).cells = new at h2
          have hnl : new.toList.length = cs.length := by have := h2.1; simpa using this
          have h1c : ∀ z ∈ new.toList, z.oneCell' = true := by
            intro z hz'
            obtain ⟨j, hj⟩ := List.getElem?_of_mem hz'
            have hjl : j < cs.length := by have := (List.getElem?_eq_some_iff.1 hj).1; omega
            obtain ⟨y, a1, _, a3⟩ := h2.2 j cs[j] (by simp [hjl])
            simp at hj a1
            rw [a1] at hj; cases hj; exact a3
          have hrun := run_storeCells_at P blk (i * size + off) ty' new.toList 0 arr w hb (by rw [hnl]; exact hbig) h1c
          simp only [Nat.add_zero] at hrun
          generalize hcur : (arr.toList.take (i * size + off) ++ new.toList ++ arr.toList.drop (i * size + off + new.toList.length)) = cur at hrun
          have hget : ∀ j, cur[j]? = if i * size + off ≤ j ∧ j < i * size + off + new.toList.length then new.toList[j - (i * size + off)]? else arr.toList[j]? := fun j => by
            rw [← hcur]; exact take_drop_get arr.toList new.toList (i * size + off) j (by rw [hnl]; simpa using hbig)
          have hcl : cur.length = arr.size := by rw [← hcur]; simp only [List.length_append, List.length_take, List.length_drop, hnl, Array.length_toList]; omega
          have hrow : rowOk G cur.toArray (es.set i (el.take off ++ cs ++ el.drop (off + cs.length))) size := by
            refine ⟨fun e hem => ?_, fun i' j' c hc' => ?_⟩
            · rcases List.mem_or_eq_of_mem_set hem with hem | rfl
              · exact hr.1 e hem
              · simp only [List.length_append, List.length_take, List.length_drop]; omega
            · by_cases hii : i' = i
              · subst hii
                simp only [at2, List.getElem?_set_self hilt, Option.bind_some] at hc'
                rw [take_drop_get el cs off j' (by omega)] at hc'
                split at hc'
                · rename_i hj
                  obtain ⟨y, a1, a2, a3⟩ := h2.2 _ c hc'
                  refine ⟨y, ?_, a2, a3⟩
                  simp only [List.getElem?_toArray]
                  rw [hget, if_pos (by rw [hnl]; omega)]
                  simp only [Array.getElem?_toList]
                  rw [← a1]; congr 1; omega
                · rename_i hj
                  obtain ⟨y, a1, a2, a3⟩ := hr.2 i' j' c (by simp [at2, he, hc'])
                  refine ⟨y, ?_, a2, a3⟩
                  simp only [List.getElem?_toArray]
                  rw [hget, if_neg (by rw [hnl]; omega)]
                  simpa using a1
              · have hc'' : at2 es i' j' = some c := by simpa only [at2, List.getElem?_set_ne (Ne.symm hii)] using hc'
                obtain ⟨y, a1, a2, a3⟩ := hr.2 i' j' c hc''
                refine ⟨y, ?_, a2, a3⟩
                have hj' : j' < size := by
                  simp only [at2] at hc''
                  cases hq : es[i']? with
                  | none => simp [hq] at hc''
                  | some e' =>
                    simp [hq] at hc''
                    have := hr.1 e' (List.mem_of_getElem? hq)
                    have := (List.getElem?_eq_some_iff.1 hc'').1
                    omega
                simp only [List.getElem?_toArray]
                rw [hget, if_neg ?_]
                · simpa using a1
                · rw [hnl]
                  rintro ⟨b1, b2⟩
                  rcases Nat.lt_or_gt_of_ne hii with hlt | hgt
                  · have : (i' + 1) * size ≤ i * size := Nat.mul_le_mul_right _ hlt
                    rw [Nat.add_mul] at this; omega
                  · have : (i + 1) * size ≤ i' * size := Nat.mul_le_mul_right _ hgt
                    rw [Nat.add_mul] at this; omega
          have hsb : SameBut blk w (w.setRow blk cur.toArray) := ⟨by simp [World.setRow], fun c hc => setRow_other w blk c _ hc, rfl, rfl, rfl⟩
          obtain ⟨r1, r2⟩ := h.setObj hes hloc (x' := .row (es.set i (el.take off ++ cs ++ el.drop (off + cs.length)))) (ob := .cells cur.toArray ty' (0, 0))
            (.inl ⟨es, _, size, m, cur.toArray, ty', rfl, rfl, rfl, rfl, by simp [hcl, hz], by simpa using hm, hrow⟩) hsb (setRow_heap w blk arr _ ty' _ hb)
          refine opTo_skip ?_ ⟨G, r1, .unit G, r2⟩
          have hsize : new.size = inf.size := by have := hnl; simp at this; omega
          simp [execOp, ho, hu, Instr.storeAt, Instr.sureAddr, storeVar, hnew, sizeOf, typeInfo, e2, hsize, hrun]
        · cases hs
      · cases hs
    · cases hs
  · cases hs

theorem compXs_len : ∀ {l : List Operand} {ys : List LX}, compXs l = some ys → ys.length = l.length
  | [], ys, h => by cases h; rfl
  | x :: r, ys, h => by
    simp only [compXs] at h
    split at h
    · rename_i y l h1 h2; cases h; simp [compXs_len h2]
    · cases h

theorem compXs_get : ∀ {l : List Operand} {ys : List LX}, compXs l = some ys → ∀ (i : Nat) y, ys[i]? = some y → ∃ x, l[i]? = some x ∧ compX x = some y
  | [], ys, h, i, y, hy => by cases h; simp at hy
  | x :: r, ys, h, i, y, hy => by
    simp only [compXs] at h
    split at h
    · rename_i y' l h1 h2
      cases h
      cases i with
      | zero => simp at hy; subst hy; exact ⟨x, rfl, h1⟩
      | succ i => simp at hy; exact compXs_get h2 i y hy
    · cases h

/-- Arguments. -/
def ArgsR (G : Gh) (vs : List LV) (us : Array Value) : Prop := us.size = vs.length ∧ ∀ (i : Nat) x, vs[i]? = some x → VL G x (us.getD i undef)

theorem argsR_of {l : List Operand} (hx : ∀ x ∈ l, ∀ y, compX x = some y → VL G (y.ev t) (a.eval x)) {ys : List LX} (hy : compXs l = some ys) :
    ArgsR G (ys.map (LX.ev t)) (l.map a.eval).toArray := by
  refine ⟨by simp [compXs_len hy], fun i v hv => ?_⟩
  rw [List.getElem?_map] at hv
  cases hq : ys[i]? with
  | none => simp [hq] at hv
  | some y =>
    simp [hq] at hv; subst hv
    obtain ⟨x, h1, h2⟩ := compXs_get hy i y hq
    have := hx x (List.mem_of_getElem? h1) y h2
    simpa [Array.getD_eq_getD_getElem?, h1] using this

theorem op_fn {f : FuncId} {first captured : Array Operand} (ho : o.op = .makeFunc (.func f) first captured) (h0 : first.size = 0) {cs : List LX} (hc : compXs captured.toList = some cs)
    (h : WR G st w) (hx : XsR G t a o.op) : OpTo P o a w (Good G st w (.fn (.func f) [] (cs.map (LX.ev t))) st) := by
  obtain rfl : first = #[] := by simpa using h0
  have hA := argsR_of (G := G) (t := t) (a := a) (l := captured.toList) (fun x hm y hy => hx x (by rw [ho]; simpa [Op.operands] using hm) y hy) hc
  refine opTo_value (u := .func (.func f) #[] (captured.map a.eval)) (w' := w) ?_ (.same h ?_)
  · simp [execOp, ho, Instr.makeFunc]
  · refine .fn _ _ _ rfl (by have := hA.1; simpa using this) (by simp) ?_
    intro i x hi
    have := hA.2 i x hi
    simpa using this

theorem op_iface {ty : TypeId} {x : Operand} (ho : o.op = .makeInterface ty x) {d : TypeDesc} (hd : P.underlying ty = some d) (hni : ∀ ms, d ≠ .interface ms) {y : LX} (hy : compX x = some y)
    (h : WR G st w) (hx : XsR G t a o.op) : OpTo P o a w (Good G st w (.ifc ty (y.ev t)) st) := by
  have h1 := hx x (by rw [ho]; simp [Op.operands]) y hy
  refine opTo_value (u := .iface ty (a.eval x)) (w' := w) ?_ (.same h (.ifc ty h1))
  cases d <;> first | exact absurd rfl (hni _) | simp [execOp, ho, Instr.makeInterface, run_underlying hd]

theorem op_mkmap {ty : TypeId} (ho : o.op = .makeMap ty none) (h : WR G st w) : OpTo P o a w (Good G st w (.mp st.length) (st ++ [.map []])) := by
  obtain ⟨r1, r2⟩ := h.newObj (.map []) (.map w.heap.size) (.map #[] 0) (.inr (.inl ⟨[], #[], 0, rfl, rfl, rfl, rfl, by simp⟩))
  refine opTo_value (u := .map (some w.heap.size)) (w' := w.alloc (.map #[] 0)) ?_ ⟨_, r1, .mp (by simp [Gh.addLoc]), r2⟩
  simp [execOp, ho, Instr.makeMap]

theorem op_range {ty : TypeId} {x : Operand} (ho : o.op = .range ty x) (hty : P.underlying ty = some .string) {y : LX} (hy : compX x = some y) {s : List UInt8} (hv : y.ev t = .p (.str s))
    (h : WR G st w) (hx : XsR G t a o.op) : OpTo P o a w (Good G st w (.it st.length) (st ++ [.siter s 0])) := by
  have h1 := hx x (by rw [ho]; simp [Op.operands]) y hy
  rw [hv] at h1
  obtain ⟨r1, r2⟩ := h.newObj (.siter s 0) (.iter w.heap.size) (.stringIter ⟨s.toArray⟩ 0) (.inr (.inr ⟨s, 0, rfl, rfl, rfl⟩))
  refine opTo_value (u := .pointer (some ⟨w.heap.size, 0, none⟩)) (w' := w.alloc (.stringIter ⟨s.toArray⟩ 0)) ?_ ⟨_, r1, .it (by simp [Gh.addLoc]), r2⟩
  simp [execOp, ho, Instr.range, run_underlying hty, h1.str_inv]

theorem sameBut_set (w : World) (b : Nat) (ob : Obj) : SameBut b w { w with heap := w.heap.setIfInBounds b ob } :=
  ⟨by simp, fun c hc => by simp only; rw [Array.getElem?_setIfInBounds_ne (Ne.symm hc)], rfl, rfl, rfl⟩

theorem op_next {x : Operand} {y : LX} (ho : o.op = .next x true) (hy : compX x = some y) {q : Nat} (hv : y.ev t = .it q) {s : List UInt8} {pos : Nat} (hs : st[q]? = some (.siter s pos))
    (h : WR G st w) (hx : XsR G t a o.op) :
    OpTo P o a w (if pos < s.length then Good G st w (.tup [.p (.bool true), .p (.int .i64 pos), .p (.int .i32 (Utf8.decode ⟨s.toArray⟩ pos).1)]) (st.set q (.siter s (pos + (Utf8.decode ⟨s.toArray⟩ pos).2)))
      else Good G st w (.tup [.p (.bool false)]) st) := by
  have h1 := hx x (by rw [ho]; simp [Op.operands]) y hy
  rw [hv] at h1
  obtain ⟨blk, hl, hu⟩ := h1.it_inv
  obtain ⟨blk', e, hb⟩ := h.iter q s pos hs _ hl
  cases e
  by_cases hp : pos < s.length
  · rw [if_pos hp]
    have hlt := lt_of_heap hb
    obtain ⟨r1, r2⟩ := h.setObj hs hl (x' := .siter s (pos + (Utf8.decode ⟨s.toArray⟩ pos).2)) (ob := .stringIter ⟨s.toArray⟩ (pos + (Utf8.decode ⟨s.toArray⟩ pos).2))
      (.inr (.inr ⟨s, pos, s, _, rfl, rfl, rfl, rfl⟩)) (sameBut_set w blk (.stringIter ⟨s.toArray⟩ (pos + (Utf8.decode ⟨s.toArray⟩ pos).2))) (by simp [hlt])
    refine opTo_value (u := .tuple #[.bool true, .int .i64 pos, .int .i32 (Utf8.decode ⟨s.toArray⟩ pos).1]) ?_ ⟨G, r1, ?_, r2⟩
    · simp [execOp, ho, Instr.next, hu, getObj, setObj, Sem.run, hb, hp, goInt]
    · refine .tup _ rfl ?_
      intro i z hz
      match i, hz with
      | 0, hz => simp at hz; subst hz; exact .p (.bool _)
      | 1, hz => simp at hz; subst hz; exact .p (.int _ _)
      | 2, hz => simp at hz; subst hz; exact .p (.int _ _)
  · rw [if_neg hp]
    refine opTo_value (u := .tuple #[.bool false]) (w' := w) ?_ (.same h ?_)
    · simp [execOp, ho, Instr.next, hu, getObj, Sem.run, hb, hp]
    · refine .tup _ rfl ?_
      intro i z hz
      match i, hz with
      | 0, hz => simp at hz; subst hz; exact .p (.bool _)

end ops
end Go.LS

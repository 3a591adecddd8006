/- More of LS's operations against the machine's. -/
import Derived.Test.YthiilhepneddpaaLsSound1
import Derived.Laws.RangeAny
set_option linter.unusedVariables false
set_option linter.unusedSimpArgs false
namespace Go.LS
section ops
variable {P : Program} {G : Gh} {st st' : List LObj} {w : World} {t : List LV} {a : Act} {o : Oper} {v : LV}

theorem getD_some {vs : Array Value} {i : Nat} {u : Value} (h : vs[i]? = some u) : vs.getD i undef = u := by
  simp [Array.getD_eq_getD_getElem?, h]

theorem op_extract {x : Operand} {i : Nat} (ho : o.op = .extract x i) {y : LX} (hy : compX x = some y) {vs : List LV} (hv : y.ev t = .tup vs) (hi : vs[i]? = some v) (h : WR G st w) (hx : XsR G t a o.op) :
    OpTo P o a w (Good G st w v st) := by
  have h1 := hx x (by rw [ho]; simp [Op.operands]) y hy
  rw [hv] at h1
  obtain ⟨arr, hu, hs, hc⟩ := h1.tup_inv
  have hlt : i < arr.size := by rw [hs]; exact (List.getElem?_eq_some_iff.1 hi).1
  have := hc i v hi
  refine opTo_value (u := arr[i]) (w' := w) ?_ (.same h (by simpa [hlt] using this))
  simp [execOp, ho, hu, Instr.extract, hlt]

theorem op_fieldAddr {s : TypeId} {x : Operand} {f : Nat} (ho : o.op = .fieldAddr s x f) {fs : Array Field} (hs : P.underlying s = some (.struct fs)) {fd : Field} (hf : fs[f]? = some fd)
    {i : TypeInfo} (hi : P.info? fd.type = some i) (hi0 : i.size ≠ 0) {y : LX} (hy : compX x = some y) (h : WR G st w) (hx : XsR G t a o.op)
    (hv : (∃ q k off, y.ev t = .ptr q k off ∧ v = .ptr q k (off + fd.offset)) ∨ ∃ c off, y.ev t = .pin c off ∧ v = .pin c (off + fd.offset)) :
    OpTo P o a w (Good G st w v st) := by
  have h1 := hx x (by rw [ho]; simp [Op.operands]) y hy
  have run : ∀ b off, a.eval x = .pointer (some ⟨b, off, none⟩) → (execOp a.eval o).run P w = .ok (.value (.pointer (some ⟨b, off + fd.offset, none⟩))) w := by
    intro b off hu
    simp [execOp, ho, hu, Instr.fieldAt, run_underlying hs, hf, Instr.sureAddr, fieldPlace, sizeOf, typeInfo, hi, hi0, Addr.add_lit]
  rcases hv with ⟨q, k, off, e, rfl⟩ | ⟨c, off, e, rfl⟩
  · rw [e] at h1
    obtain ⟨blk, size, n, hl, hu⟩ := h1.ptr_inv
    exact opTo_value (run _ _ hu) (.same h (by rw [Nat.add_assoc]; exact .ptr hl))
  · rw [e] at h1
    obtain ⟨b, base, vals, hu, hF, hp⟩ := h1.pin_inv
    exact opTo_value (run _ _ hu) (.same h (by rw [Nat.add_assoc]; exact .pin vals hF hp))

theorem CellsR.part {G : Gh} {cs : List LV} {arr : Array Value} (h : CellsR G cs arr) (off n : Nat) (hn : off + n ≤ cs.length) : CellsR G ((cs.drop off).take n) (arr.extract off (off + n)) := by
  have h0 := h.1
  refine ⟨by simp; omega, fun i x hx => ?_⟩
  rw [List.getElem?_take] at hx
  split at hx
  · rename_i hi
    rw [List.getElem?_drop] at hx
    obtain ⟨y, h1, h2⟩ := h.2 _ x hx
    refine ⟨y, ?_, h2⟩
    have hlt := (Array.getElem?_eq_some_iff.1 h1).1
    rw [Array.getElem?_extract]
    rw [if_pos (by omega)]
    exact h1
  · cases hx

theorem run_isAgg {ty : TypeId} {d : TypeDesc} (h : P.underlying ty = some d) (w : World) : (isAgg ty).run P w = .ok (aggB d) w := by
  unfold isAgg aggB
  rw [Sem.run_bind, run_underlying h w]
  cases d <;> rfl

theorem tyOf_inv {ty : TypeId} {agg : Bool} {n : Nat} (h : tyOf P ty = some (agg, n)) : ∃ d i, P.underlying ty = some d ∧ P.info? ty = some i ∧ aggB d = agg ∧ i.size = n := by
  unfold tyOf at h
  split at h
  · rename_i d i h1 h2; cases h; exact ⟨d, i, h1, h2, rfl, rfl⟩
  · cases h

/-- A part of a struct's or an array's value. -/
theorem run_part {ty : TypeId} {agg : Bool} {n off : Nat} (hty : tyOf P ty = some (agg, n)) (hn : agg = true ∨ n = 1) {cs : List LV} {arr : Array Value} (hc : CellsR G cs arr)
    (hl : off + n ≤ cs.length) (hv : ofCells agg ((cs.drop off).take n) = some v) (w : World) : ∃ u, (part ty arr off).run P w = .ok u w ∧ VL G v u := by
  obtain ⟨d, i, h1, h2, rfl, rfl⟩ := tyOf_inv hty
  have hp := hc.part off i.size hl
  have := ofCells_sound hp hv
  rcases this with ⟨ha, hu⟩ | ⟨ha, y, he, hu, _⟩
  · refine ⟨_, ?_, hu⟩
    simp [part, run_isAgg h1, ha, sizeOf, typeInfo, h2]
  · refine ⟨y, ?_, hu⟩
    have hn1 : i.size = 1 := by rcases hn with hn | hn; · rw [ha] at hn; cases hn
                                · exact hn
    rw [hn1] at he
    have : arr[off]? = some y := by
      have h0 := congrArg (fun z : Array Value => z[0]?) he
      simp only [Array.getElem?_extract] at h0
      have hlt : off < arr.size := by have := hc.1; omega
      rw [if_pos (by omega)] at h0
      simpa using h0
    simp [part, run_isAgg h1, ha, this]

theorem op_field {ty : TypeId} {x : Operand} {f : Nat} (ho : o.op = .field ty x f) {fs : Array Field} (hs : P.underlying ty = some (.struct fs)) {fd : Field} (hf : fs[f]? = some fd)
    {agg : Bool} {n : Nat} (hty : tyOf P fd.type = some (agg, n)) (hn : agg = true ∨ n = 1) {y : LX} (hy : compX x = some y) {cs : List LV} (hv : y.ev t = .agg cs) (hl : fd.offset + n ≤ cs.length)
    (hr : ofCells agg ((cs.drop fd.offset).take n) = some v) (h : WR G st w) (hx : XsR G t a o.op) : OpTo P o a w (Good G st w v st) := by
  have h1 := hx x (by rw [ho]; simp [Op.operands]) y hy
  rw [hv] at h1
  obtain ⟨arr, hu, hc⟩ := h1.agg_inv
  obtain ⟨u, hrun, hvu⟩ := run_part (P := P) hty hn hc hl hr w
  refine opTo_value (u := u) (w' := w) ?_ (.same h hvu)
  simp [execOp, ho, hu, Instr.field, run_underlying hs, hf, asAgg, hrun]

theorem asInt_inv {v : LV} {i : Int} {u : Value} (h : v.asInt = some i) (hv : VL G v u) : ∃ k, u = .int k i := by
  unfold LV.asInt at h
  split at h
  · cases h; exact ⟨_, hv.int_inv⟩
  · cases h

theorem op_indexAddr {ty e : TypeId} {x i : Operand} (ho : o.op = .indexAddr ty x i) (hty : P.underlying ty = some (.slice e)) {inf : TypeInfo} (hi : P.info? e = some inf)
    {x' i' : LX} (hx' : compX x = some x') (hi' : compX i = some i') {n : Int} (hn : (i'.ev t).asInt = some n) (h0 : 0 ≤ n) (h : WR G st w) (hx : XsR G t a o.op)
    (hv : (∃ es el, (x'.ev t).asSl = some es ∧ es[n.toNat]? = some el ∧ el.length = inf.size ∧ v = .pin el 0) ∨
      ∃ q off len es el, x'.ev t = .rs q off len ∧ n < len ∧ st[q]? = some (.row es) ∧ es[off + n.toNat]? = some el ∧ el.length = inf.size ∧ v = .ptr q (off + n.toNat) 0) :
    OpTo P o a w (Good G st w v st) := by
  have h1 := hx x (by rw [ho]; simp [Op.operands]) x' hx'
  have h2 := hx i (by rw [ho]; simp [Op.operands]) i' hi'
  obtain ⟨k, hui⟩ := asInt_inv hn h2
  have run : ∀ b off len cap, a.eval x = .slice (some ⟨b, off, none⟩) len cap → n < len →
      (execOp a.eval o).run P w = .ok (.value (.pointer (some ⟨b, off + n.toNat * inf.size, none⟩))) w := by
    intro b off len cap hu hlt
    simp [execOp, ho, hu, hui, Instr.indexAt, asIntOf, run_underlying hty, h0, hlt, sizeOf, typeInfo, hi, Addr.add_lit]
  rcases hv with ⟨es, el, e1, e2, e3, rfl⟩ | ⟨q, off, len, es, el, e1, hlt, e2, e3, e4, rfl⟩
  · have hs := (asSl_sound e1 h1).slice
    have hlt := (List.getElem?_eq_some_iff.1 e2).1
    rcases hs with ⟨rfl, _⟩ | ⟨size, b, off, cap, hu, _, _, hsz, vals, hF, hp⟩ | ⟨rfl, _⟩
    · simp at e2
    · have hse : size = inf.size := (hsz el (List.mem_of_getElem? e2)).symm.trans e3
      subst hse
      refine opTo_value (run _ _ _ _ hu (by omega)) (.same h ?_)
      have := VL.pin (G := G) (cells := el) (off := 0) (b := b) (base := off + n.toNat * inf.size) (vals n.toNat) (fun j p hj => hF n.toNat j p (by simp [at2, e2, hj])) (fun j p hj => hp n.toNat j p (by simp [at2, e2, hj]))
      simpa using this
    · simp at e2
  · rw [e1] at h1
    obtain ⟨blk, size, m, cap, hl, hu, _, _, _⟩ := h1.rs_inv
    obtain ⟨blk', size', m', e5, arr, ty', hb, _, _, hr⟩ := h.row q es e2 _ hl
    cases e5
    have hse : size = inf.size := (hr.1 el (List.mem_of_getElem? e3)).symm.trans e4
    subst hse
    refine opTo_value (run _ _ _ _ hu (by omega)) (.same h ?_)
    have := VL.ptr (G := G) (o := q) (i := off + n.toNat) (off := 0) hl
    rw [Nat.add_zero, Nat.add_mul] at this
    exact this

theorem op_arrAddr {ty e : TypeId} {m : Nat} {x i : Operand} (ho : o.op = .indexAddr ty x i) (hty : P.underlying ty = some (.array m e)) {inf : TypeInfo} (hi : P.info? e = some inf)
    {x' i' : LX} (hx' : compX x = some x') (hi' : compX i = some i') {n : Int} (hn : (i'.ev t).asInt = some n) (h0 : 0 ≤ n ∧ n < m) (h : WR G st w) (hx : XsR G t a o.op)
    (hv : (∃ q k off, x'.ev t = .ptr q k off ∧ v = .ptr q k (off + n.toNat * inf.size)) ∨ ∃ c off, x'.ev t = .pin c off ∧ v = .pin c (off + n.toNat * inf.size)) :
    OpTo P o a w (Good G st w v st) := by
  have h1 := hx x (by rw [ho]; simp [Op.operands]) x' hx'
  have h2 := hx i (by rw [ho]; simp [Op.operands]) i' hi'
  obtain ⟨k, hui⟩ := asInt_inv hn h2
  have run : ∀ b off, a.eval x = .pointer (some ⟨b, off, none⟩) →
      (execOp a.eval o).run P w = .ok (.value (.pointer (some ⟨b, off + n.toNat * inf.size, none⟩))) w := by
    intro b off hu
    simp [execOp, ho, hu, hui, Instr.indexAt, asIntOf, run_underlying hty, h0, sizeOf, typeInfo, hi, Addr.add_lit, Instr.sureAddr]
  rcases hv with ⟨q, k, off, e, rfl⟩ | ⟨c, off, e, rfl⟩
  · rw [e] at h1
    obtain ⟨blk, size, n, hl, hu⟩ := h1.ptr_inv
    exact opTo_value (run _ _ hu) (.same h (by rw [Nat.add_assoc]; exact .ptr hl))
  · rw [e] at h1
    obtain ⟨b, base, vals, hu, hF, hp⟩ := h1.pin_inv
    exact opTo_value (run _ _ hu) (.same h (by rw [Nat.add_assoc]; exact .pin vals hF hp))

theorem op_index {ty : TypeId} {x i : Operand} (ho : o.op = .index ty x i) (hty : P.underlying ty = some .string)
    {x' i' : LX} (hx' : compX x = some x') (hi' : compX i = some i') {n : Int} (hn : (i'.ev t).asInt = some n) (h0 : 0 ≤ n) {s : List UInt8} (hs : x'.ev t = .p (.str s)) {b : UInt8} (hb : s[n.toNat]? = some b)
    (h : WR G st w) (hx : XsR G t a o.op) : OpTo P o a w (Good G st w (.p (.int .u8 b.toNat)) st) := by
  have h1 := hx x (by rw [ho]; simp [Op.operands]) x' hx'
  have h2 := hx i (by rw [ho]; simp [Op.operands]) i' hi'
  obtain ⟨k, hui⟩ := asInt_inv hn h2
  rw [hs] at h1
  have hu := h1.str_inv
  have hg : (⟨s.toArray⟩ : ByteArray)[n.toNat]? = some b := by
    have hlt := (List.getElem?_eq_some_iff.1 hb)
    obtain ⟨hlt, he⟩ := hlt
    rw [getElem?_pos (⟨s.toArray⟩ : ByteArray) n.toNat (by simpa using hlt)]
    show some (s.toArray[n.toNat]) = some b
    simp [he]
  refine opTo_value (u := .int .u8 b.toNat) (w' := w) ?_ (.same h (.p (.int _ _)))
  simp [execOp, ho, hu, hui, Instr.index, asIntOf, run_underlying hty, h0, hg]

theorem op_arrIndex {ty e : TypeId} {m : Nat} {x i : Operand} (ho : o.op = .index ty x i) (hty : P.underlying ty = some (.array m e))
    {agg : Bool} {sz : Nat} (hte : tyOf P e = some (agg, sz)) (hn1 : agg = true ∨ sz = 1)
    {x' i' : LX} (hx' : compX x = some x') (hi' : compX i = some i') {n : Int} (hn : (i'.ev t).asInt = some n) (h0 : 0 ≤ n ∧ n < m) {cs : List LV} (hs : x'.ev t = .agg cs) (hl : n.toNat * sz + sz ≤ cs.length)
    (hr : ofCells agg ((cs.drop (n.toNat * sz)).take sz) = some v) (h : WR G st w) (hx : XsR G t a o.op) : OpTo P o a w (Good G st w v st) := by
  have h1 := hx x (by rw [ho]; simp [Op.operands]) x' hx'
  have h2 := hx i (by rw [ho]; simp [Op.operands]) i' hi'
  obtain ⟨k, hui⟩ := asInt_inv hn h2
  rw [hs] at h1
  obtain ⟨arr, hu, hc⟩ := h1.agg_inv
  obtain ⟨u, hrun, hvu⟩ := run_part (P := P) hte hn1 hc hl hr w
  obtain ⟨d, inf, e1, e2, _, rfl⟩ := tyOf_inv hte
  refine opTo_value (u := u) (w' := w) ?_ (.same h hvu)
  simp [execOp, ho, hu, hui, Instr.index, asIntOf, run_underlying hty, h0, sizeOf, typeInfo, e2, hrun]

theorem op_len {x : Operand} {ty : TypeId} {y : LX} (ho : o.op = .call { callee := .builtin .len, args := #[x], argTypes := #[ty] })
    (hy : compX x = some y) (h : WR G st w) (hx : XsR G t a o.op) {n : Nat}
    (hv : (P.underlying ty = some .string ∧ ∃ s, y.ev t = .p (.str s) ∧ n = s.length) ∨
      ((∃ e, P.underlying ty = some (.slice e)) ∧ ((∃ es, (y.ev t).asSl = some es ∧ n = es.length) ∨ ∃ q off, y.ev t = .rs q off n)) ∨
      ((∃ k e, P.underlying ty = some (.map k e)) ∧ ((y.ev t = .p .nilm ∧ n = 0) ∨ ∃ q kv, y.ev t = .mp q ∧ st[q]? = some (.map kv) ∧ n = kv.length))) :
    OpTo P o a w (Good G st w (.p (.int .i64 n)) st) := by
  have h1 := hx x (by rw [ho]; simp [Op.operands, Call.operands]) y hy
  have key : ∀ u, a.eval x = u → (Builtin.len_ #[ty] o.type #[u]).run P w = .ok (.int .i64 n) w → OpTo P o a w (Good G st w (.p (.int .i64 n)) st) := by
    intro u hu hr
    refine opTo_value (u := .int .i64 n) (w' := w) ?_ (.same h (.p (.int _ _)))
    simp [execOp, ho, resolve, invoke, builtin, hu, hr]
  rcases hv with ⟨ht, s, e, rfl⟩ | ⟨⟨e, ht⟩, ⟨es, e1, rfl⟩ | ⟨q, off, e1⟩⟩ | ⟨⟨k, e, ht⟩, ⟨e1, rfl⟩ | ⟨q, kv, e1, e2, rfl⟩⟩
  · rw [e] at h1
    exact key _ h1.str_inv (by simp [Builtin.len_, run_underlying ht, goInt])
  · rcases (asSl_sound e1 h1).slice with ⟨rfl, hu⟩ | ⟨size, b, off, cap, hu, _⟩ | ⟨rfl, ad, cap, hu, _⟩
    · exact key _ hu (by simp [Builtin.len_, run_underlying ht, goInt])
    · exact key _ hu (by simp [Builtin.len_, run_underlying ht, goInt])
    · exact key _ hu (by simp [Builtin.len_, run_underlying ht, goInt])
  · rw [e1] at h1
    obtain ⟨blk, size, m, cap, _, hu, _⟩ := h1.rs_inv
    exact key _ hu (by simp [Builtin.len_, run_underlying ht, goInt])
  · rw [e1] at h1
    exact key _ h1.nilm_inv (by simp [Builtin.len_, run_underlying ht, goInt])
  · rw [e1] at h1
    obtain ⟨blk, hl, hu⟩ := h1.mp_inv
    obtain ⟨blk', e3, es, c, hb, hm⟩ := h.map q kv e2 _ hl
    cases e3
    exact key _ hu (by simp [Builtin.len_, run_underlying ht, goInt, getObj, Sem.run, hb, hm.1])

theorem op_constLen {x : Operand} {ty e : TypeId} {n : Nat} (ho : o.op = .call { callee := .builtin .len, args := #[x], argTypes := #[ty] }) (ht : P.underlying ty = some (.array n e)) (h : WR G st w) :
    OpTo P o a w (Good G st w (.p (.int .i64 n)) st) := by
  refine opTo_value (u := .int .i64 n) (w' := w) ?_ (.same h (.p (.int _ _)))
  simp [execOp, ho, resolve, invoke, builtin, Builtin.len_, run_underlying ht, goInt]

theorem op_cap {x : Operand} {ty e : TypeId} {y : LX} (ho : o.op = .call { callee := .builtin .cap, args := #[x], argTypes := #[ty] }) (ht : P.underlying ty = some (.slice e))
    (hy : compX x = some y) {es : List (List PV)} (hv : y.ev t = .tight es) (h : WR G st w) (hx : XsR G t a o.op) : OpTo P o a w (Good G st w (.p (.int .i64 es.length)) st) := by
  have h1 := hx x (by rw [ho]; simp [Op.operands, Call.operands]) y hy
  rw [hv] at h1
  refine opTo_value (u := .int .i64 es.length) (w' := w) ?_ (.same h (.p (.int _ _)))
  generalize hu : a.eval x = u at h1
  cases h1 with
  | tight h1 => simp [execOp, ho, resolve, invoke, builtin, hu, Builtin.cap_, run_underlying ht, goInt]

theorem op_mx {x y : Operand} {ts : Array TypeId} (ho : o.op = .call { callee := .builtin .max, args := #[x, y], argTypes := ts }) {x' y' : LX} (hx' : compX x = some x') (hy' : compX y = some y')
    {k j : IntKind} {m n : Int} (e1 : x'.ev t = .p (.int k m)) (e2 : y'.ev t = .p (.int j n)) (h : WR G st w) (hx : XsR G t a o.op) : OpTo P o a w (Good G st w (.p (.int k (if n > m then n else m))) st) := by
  have h1 := hx x (by rw [ho]; simp [Op.operands, Call.operands]) x' hx'
  have h2 := hx y (by rw [ho]; simp [Op.operands, Call.operands]) y' hy'
  rw [e1] at h1; rw [e2] at h2
  refine opTo_value (u := .int k (if n > m then n else m)) (w' := w) ?_ (.same h (.p (.int _ _)))
  simp [execOp, ho, resolve, invoke, builtin, h1.int_inv, h2.int_inv, Builtin.max_, Builtin.max2]

theorem op_mn {x y : Operand} {ts : Array TypeId} (ho : o.op = .call { callee := .builtin .min, args := #[x, y], argTypes := ts }) {x' y' : LX} (hx' : compX x = some x') (hy' : compX y = some y')
    {k j : IntKind} {m n : Int} (e1 : x'.ev t = .p (.int k m)) (e2 : y'.ev t = .p (.int j n)) (h : WR G st w) (hx : XsR G t a o.op) : OpTo P o a w (Good G st w (.p (.int k (if n < m then n else m))) st) := by
  have h1 := hx x (by rw [ho]; simp [Op.operands, Call.operands]) x' hx'
  have h2 := hx y (by rw [ho]; simp [Op.operands, Call.operands]) y' hy'
  rw [e1] at h1; rw [e2] at h2
  refine opTo_value (u := .int k (if n < m then n else m)) (w' := w) ?_ (.same h (.p (.int _ _)))
  simp [execOp, ho, resolve, invoke, builtin, h1.int_inv, h2.int_inv, Builtin.min_, Builtin.min2]

end ops
end Go.LS

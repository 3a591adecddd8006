/- LS's values and operations against the machine's: what meets no call and no list that grows. -/
import Derived.Test.YthiilhepneddpaaLsComp
import Derived.Test.YthiilhepneddpaaLsWorld2
import Derived.Laws.Append
import Derived.Laws.Tables
import Derived.Laws.BytesString
import Derived.Laws.IdiomStrings
import Derived.Laws.Concat
import Derived.Laws.Strings
set_option linter.unusedVariables false
set_option linter.unusedSimpArgs false
namespace Go.LS

def CellsR (G : Gh) (cs : List LV) (arr : Array Value) : Prop :=
  arr.size = cs.length ∧ ∀ (i : Nat) x, cs[i]? = some x → ∃ y, arr[i]? = some y ∧ VL G x y ∧ y.oneCell' = true

theorem CellsR.mono {G G' : Gh} (hG : G.le G') {cs : List LV} {arr : Array Value} (h : CellsR G cs arr) : CellsR G' cs arr :=
  ⟨h.1, fun i x hx => let ⟨y, a, b, c⟩ := h.2 i x hx; ⟨y, a, b.mono hG, c⟩⟩

theorem CellsR.nil (G : Gh) : CellsR G [] #[] := ⟨rfl, by simp⟩

theorem CellsR.cons {G : Gh} {x : LV} {y : Value} {cs : List LV} {l : List Value} (h1 : VL G x y) (h2 : y.oneCell' = true) (h : CellsR G cs l.toArray) :
    CellsR G (x :: cs) (y :: l).toArray := by
  refine ⟨by have := h.1; simp at this ⊢; omega, fun i z hz => ?_⟩
  cases i with
  | zero => simp at hz; subst hz; exact ⟨y, by simp, h1, h2⟩
  | succ i => simp at hz; obtain ⟨u, a, b, c⟩ := h.2 i z hz; exact ⟨u, by simpa using a, b, c⟩

theorem constCell_sound (G : Gh) {v : Value} {x : LV} (h : constCell v = some x) : VL G x v ∧ v.oneCell' = true := by
  unfold constCell at h
  split at h <;> cases h <;> refine ⟨?_, rfl⟩
  · exact .p (.bool _)
  · exact .p (.int _ _)
  · rename_i s; cases s with | mk d => exact .p (VP.str d.toList)
  · exact .p .nilp
  · exact .tight (es := []) .nils
  · exact .p .nilm
  · exact .p .nilf
  · exact .p .nili

theorem constCells_sound (G : Gh) : ∀ {l : List Value} {xs : List LV}, constCells l = some xs → CellsR G xs l.toArray
  | [], xs, h => by cases h; exact .nil G
  | v :: r, xs, h => by
    simp only [constCells] at h
    split at h
    · rename_i x l hx hl
      cases h
      have := constCell_sound G hx
      exact .cons this.1 this.2 (constCells_sound G hl)
    · cases h

theorem constLV_sound (G : Gh) {v : Value} {x : LV} (h : constLV v = some x) : VL G x v := by
  unfold constLV at h
  split at h
  · split at h
    · rename_i cs _ l hl
      cases h
      have := constCells_sound G hl
      refine .agg cs (by simpa using this.1) ?_ ?_
      · intro i u hu
        have hi : i < l.length := by
          have := (Array.getElem?_eq_some_iff.1 hu).1
          have h2 := ‹CellsR G l _›.1
          simp at h2; omega
        obtain ⟨y, a, _, c⟩ := this.2 i l[i] (by simp [hi])
        simp at a
        rw [hu] at a
        cases a; exact c
      · intro i y hy
        obtain ⟨u, a, b, _⟩ := this.2 i y hy
        simp at a
        simpa [Array.getD_eq_getD_getElem?, a] using b
    · cases h
  · exact (constCell_sound G h).1

/-- The operands stand for what they say. -/
def XsR (G : Gh) (t : List LV) (a : Act) (op : Op) : Prop := ∀ x ∈ op.operands, ∀ y, compX x = some y → VL G (y.ev t) (a.eval x)

theorem cells_sound {G : Gh} {v : LV} {cs : List LV} {u : Value} (h : v.cells? = some cs) (hv : VL G v u) : CellsR G cs u.cells := by
  cases hv with
  | agg vs h1 h2 h3 =>
    simp only [LV.cells?] at h
    cases h
    refine ⟨h1, fun i x hx => ?_⟩
    have hi : i < vs.size := by rw [h1]; exact (List.getElem?_eq_some_iff.1 hx).1
    exact ⟨vs[i], by simp [Value.cells, hi], by have := h3 i x hx; simpa [hi] using this, h2 i _ (by simp [hi])⟩
  | und => simp [LV.cells?] at h
  | anyb => simp [LV.cells?] at h
  | gr => simp [LV.cells?] at h
  | tup => simp [LV.cells?] at h
  | p hp =>
    simp only [LV.cells?] at h; cases h
    have := hp.one
    rw [show u.cells = #[u] by cases u <;> simp_all [Value.cells, Value.oneCell']]
    exact .cons (.p hp) this (.nil G)
  | sl h1 h2 h3 h4 => simp only [LV.cells?] at h; cases h; exact .cons (.sl h1 h2 h3 h4) rfl (.nil G)
  | tight h1 => simp only [LV.cells?] at h; cases h; exact .cons (.tight h1) rfl (.nil G)
  | ptr h1 => simp only [LV.cells?] at h; cases h; exact .cons (.ptr h1) rfl (.nil G)
  | pin vals h1 h2 => simp only [LV.cells?] at h; cases h; exact .cons (.pin vals h1 h2) rfl (.nil G)
  | rs h1 h2 h3 h4 => simp only [LV.cells?] at h; cases h; exact .cons (.rs h1 h2 h3 h4) rfl (.nil G)
  | mp h1 => simp only [LV.cells?] at h; cases h; exact .cons (.mp h1) rfl (.nil G)
  | it h1 => simp only [LV.cells?] at h; cases h; exact .cons (.it h1) rfl (.nil G)
  | fn f vf vc h1 h2 h3 h4 => simp only [LV.cells?] at h; cases h; exact .cons (.fn f vf vc h1 h2 h3 h4) rfl (.nil G)
  | ifc t h1 => simp only [LV.cells?] at h; cases h; exact .cons (.ifc t h1) rfl (.nil G)

theorem ofCells_sound {G : Gh} {agg : Bool} {cs : List LV} {v : LV} {arr : Array Value} (h : CellsR G cs arr) (ho : ofCells agg cs = some v) :
    (agg = true ∧ VL G v (.agg arr)) ∨ (agg = false ∧ ∃ y, arr = #[y] ∧ VL G v y ∧ y.oneCell' = true) := by
  unfold ofCells at ho
  cases agg with
  | true =>
    simp at ho; subst ho
    refine .inl ⟨rfl, .agg arr h.1 ?_ ?_⟩
    · intro i u hu
      have hi : i < cs.length := by have := (Array.getElem?_eq_some_iff.1 hu).1; have := h.1; omega
      obtain ⟨y, a, _, c⟩ := h.2 i cs[i] (by simp [hi])
      rw [hu] at a; cases a; exact c
    · intro i x hx
      obtain ⟨y, a, b, _⟩ := h.2 i x hx
      simpa [Array.getD_eq_getD_getElem?, a] using b
  | false =>
    simp at ho
    split at ho
    · rename_i w
      cases ho
      obtain ⟨y, a, b, c⟩ := h.2 0 v rfl
      refine .inr ⟨rfl, y, ?_, b, c⟩
      apply Array.ext_getElem?
      intro i
      have hz := h.1
      simp at hz
      cases i with
      | zero => simpa using a
      | succ i => rw [Array.getElem?_eq_none (by omega), Array.getElem?_eq_none (by simp)]
    · cases ho

theorem CellsR.toRow {G : Gh} {cs : List LV} {arr : Array Value} (h : CellsR G cs arr) : rowOk G arr [cs] cs.length := by
  refine ⟨by simp, fun i j c hc => ?_⟩
  cases i with
  | zero => simp only [at2, List.getElem?_cons_zero, Option.bind_some] at hc; obtain ⟨y, a⟩ := h.2 j c hc; exact ⟨y, by simpa using a⟩
  | succ i => simp [at2] at hc

theorem toPV_sound {G : Gh} : ∀ {v : LV} {q : PV} {u : Value}, v.toPV = some q → VL G v u → VP G.F q u
  | .p v, q, u, h, hv => by simp only [LV.toPV] at h; cases h; cases hv; assumption
  | .sl es t fin, q, u, h, hv => by simp only [LV.toPV] at h; cases h; cases hv; assumption
  | .tight es, q, u, h, hv => by simp only [LV.toPV] at h; cases h; cases hv; assumption
  | .ifc t v, q, u, h, hv => by
    simp only [LV.toPV] at h
    split at h
    · rename_i q' hq
      cases h
      cases hv with
      | ifc t h1 => exact .ifc t _ _ (toPV_sound hq h1)
    · cases h
  | .und, q, u, h, hv => by simp [LV.toPV] at h
  | .ptr _ _ _, q, u, h, hv => by simp [LV.toPV] at h
  | .pin _ _, q, u, h, hv => by simp [LV.toPV] at h
  | .rs _ _ _, q, u, h, hv => by simp [LV.toPV] at h
  | .mp _, q, u, h, hv => by simp [LV.toPV] at h
  | .it _, q, u, h, hv => by simp [LV.toPV] at h
  | .fn _ _ _, q, u, h, hv => by simp [LV.toPV] at h
  | .agg _, q, u, h, hv => by simp [LV.toPV] at h
  | .tup _, q, u, h, hv => by simp [LV.toPV] at h

theorem asSl_sound {G : Gh} {v : LV} {es : List (List PV)} {u : Value} (h : v.asSl = some es) (hv : VL G v u) : VP G.F (.sl es) u := by
  unfold LV.asSl at h
  split at h <;> cases h <;> cases hv <;> assumption

/-- What a machine's slice of pure cells is. -/
theorem VP.slice {F : Nat → Nat → Option Value} {es : List (List PV)} {u : Value} (h : VP F (.sl es) u) :
    (es = [] ∧ u = .slice none 0 0) ∨ (∃ size b o cap, u = .slice (some ⟨b, o, none⟩) es.length cap ∧ es.length ≤ cap ∧ cap ≤ maxLen ∧ (∀ e ∈ es, e.length = size) ∧
      ∃ vals : Nat → Nat → Value, (∀ i j p, at2 es i j = some p → F b (o + i * size + j) = some (vals i j)) ∧ ∀ i j p, at2 es i j = some p → VP F p (vals i j)) ∨
    (es = [] ∧ ∃ a cap, u = .slice (some a) 0 cap ∧ cap ≤ maxLen) := by
  cases h with
  | nils => exact .inl ⟨rfl, rfl⟩
  | sl _ size b o cap vals h1 h2 h3 h4 h5 => exact .inr (.inl ⟨size, b, o, cap, rfl, h1, h2, h3, vals, h4, h5⟩)
  | sl0 a cap hm => exact .inr (.inr ⟨rfl, a, cap, rfl, hm⟩)

theorem VL.bool_inv {G : Gh} {b : Bool} {u : Value} (h : VL G (.p (.bool b)) u) : u = .bool b := by cases h with | p h => cases h; rfl
theorem VL.int_inv {G : Gh} {k : IntKind} {n : Int} {u : Value} (h : VL G (.p (.int k n)) u) : u = .int k n := by cases h with | p h => cases h; rfl
theorem VL.str_inv {G : Gh} {s : List UInt8} {u : Value} (h : VL G (.p (.str s)) u) : u = .string ⟨s.toArray⟩ := by cases h with | p h => cases h; rfl
theorem VL.nilp_inv {G : Gh} {u : Value} (h : VL G (.p .nilp) u) : u = .pointer none := by cases h with | p h => cases h; rfl
theorem VL.nilm_inv {G : Gh} {u : Value} (h : VL G (.p .nilm) u) : u = .map none := by cases h with | p h => cases h; rfl
theorem VL.ptr_inv {G : Gh} {o i off : Nat} {u : Value} (h : VL G (.ptr o i off) u) : ∃ blk size n, G.loc o = some (.row blk size n) ∧ u = .pointer (some ⟨blk, i * size + off, none⟩) := by
  cases h with | ptr h => exact ⟨_, _, _, h, rfl⟩
theorem VL.pin_inv {G : Gh} {cells : List PV} {off : Nat} {u : Value} (h : VL G (.pin cells off) u) : ∃ (b base : Nat) (vals : Nat → Value), u = .pointer (some ⟨b, base + off, none⟩) ∧
    (∀ j p, cells[j]? = some p → G.F b (base + j) = some (vals j)) ∧ ∀ j p, cells[j]? = some p → VP G.F p (vals j) := by
  cases h with | pin vals h1 h2 => exact ⟨_, _, vals, rfl, h1, h2⟩
theorem VL.rs_inv {G : Gh} {o off len : Nat} {u : Value} (h : VL G (.rs o off len) u) : ∃ blk size n cap, G.loc o = some (.row blk size n) ∧ u = .slice (some ⟨blk, off * size, none⟩) len cap ∧ cap ≤ maxLen ∧ len ≤ cap ∧ off + cap ≤ n := by
  cases h with | rs h1 h2 h3 h4 => exact ⟨_, _, _, _, h1, rfl, h2, h3, h4⟩
theorem VL.mp_inv {G : Gh} {o : Nat} {u : Value} (h : VL G (.mp o) u) : ∃ blk, G.loc o = some (.map blk) ∧ u = .map (some blk) := by cases h with | mp h => exact ⟨_, h, rfl⟩
theorem VL.it_inv {G : Gh} {o : Nat} {u : Value} (h : VL G (.it o) u) : ∃ blk, G.loc o = some (.iter blk) ∧ u = .pointer (some ⟨blk, 0, none⟩) := by cases h with | it h => exact ⟨_, h, rfl⟩
theorem VL.fn_inv {G : Gh} {f : Fn} {c d : List LV} {u : Value} (h : VL G (.fn f c d) u) : ∃ vf vc : Array Value, u = .func f vf vc ∧ vf.size = c.length ∧ vc.size = d.length ∧
    (∀ (i : Nat) x, c[i]? = some x → VL G x (vf.getD i undef)) ∧ ∀ (i : Nat) x, d[i]? = some x → VL G x (vc.getD i undef) := by
  cases h with | fn f vf vc h1 h2 h3 h4 => exact ⟨vf, vc, rfl, h1, h2, h3, h4⟩
theorem VL.agg_inv {G : Gh} {cs : List LV} {u : Value} (h : VL G (.agg cs) u) : ∃ vs, u = .agg vs ∧ CellsR G cs vs := by
  have := cells_sound (cs := cs) rfl h
  cases h with | agg vs h1 h2 h3 => exact ⟨vs, rfl, this⟩
theorem VL.tup_inv {G : Gh} {cs : List LV} {u : Value} (h : VL G (.tup cs) u) : ∃ vs, u = .tuple vs ∧ vs.size = cs.length ∧ ∀ (i : Nat) x, cs[i]? = some x → VL G x (vs.getD i undef) := by
  cases h with | tup vs h1 h2 => exact ⟨vs, rfl, h1, h2⟩

def Good (G : Gh) (st : List LObj) (w : World) (v : LV) (st' : List LObj) (u : Value) (w' : World) : Prop :=
  ∃ G', WR G' st' w' ∧ VL G' v u ∧ Ext G st w G' st' w'

theorem Good.same {G : Gh} {st : List LObj} {w : World} {v : LV} {u : Value} (h : WR G st w) (hv : VL G v u) : Good G st w v st u w := ⟨G, h, hv, .refl ..⟩

/-- What an operation comes to. -/
def OpTo (P : Program) (o : Oper) (a : Act) (w : World) (R : Value → World → Prop) : Prop :=
  ∀ (next : Act → World → Prop) (Q : Exit → Act → World → Prop), (∀ u w', R u w' → next (a.put o.dst u) w') → o.wp P a w next Q

theorem opTo_value {P : Program} {o : Oper} {a : Act} {w w' : World} {u : Value} {R : Value → World → Prop} (h : (execOp a.eval o).run P w = .ok (.value u) w') (hR : R u w') : OpTo P o a w R := by
  intro next Q hn
  unfold Oper.wp
  rw [h]
  exact hn u w' hR
theorem opTo_skip {P : Program} {o : Oper} {a : Act} {w w' : World} {R : Value → World → Prop} (h : (execOp a.eval o).run P w = .ok .skip w') (hR : R undef w') : OpTo P o a w R := by
  intro next Q hn
  unfold Oper.wp
  rw [h]
  exact hn undef w' hR

theorem VL.unit (G : Gh) : VL G (.tup []) undef := .tup #[] rfl (by simp)

section ops
variable {P : Program} {G : Gh} {st st' : List LObj} {w : World} {t : List LV} {a : Act} {o : Oper} {v : LV}

theorem run_zeroValue {i : TypeInfo} {z : Value} {e : TypeId} (hi : P.info? e = some i) (hz : i.zero = some z) (w : World) : (zeroValue e).run P w = .ok z w := by
  simp [zeroValue, typeInfo, hi, hz]

theorem op_mv {x : Operand} (ho : o.op = .move x ∨ o.op = .assign x) {y : LX} (hy : compX x = some y) (h : WR G st w) (hx : XsR G t a o.op) :
    OpTo P o a w (Good G st w (y.ev t) st) := by
  have hm : x ∈ o.op.operands := by rcases ho with ho | ho <;> rw [ho] <;> simp [Op.operands]
  refine opTo_value (u := a.eval x) ?_ (.same h (hx x hm y hy))
  rcases ho with ho | ho <;> simp [execOp, ho]

theorem op_pick {c x y : Operand} (ho : o.op = .pick c x y) {c' x' y' : LX} (hc : compX c = some c') (hx' : compX x = some x') (hy' : compX y = some y')
    (h : WR G st w) (hx : XsR G t a o.op) {b : Bool} (hb : c'.ev t = .p (.bool b)) : OpTo P o a w (Good G st w (if b then x'.ev t else y'.ev t) st) := by
  have h1 := hx c (by rw [ho]; simp [Op.operands]) c' hc
  have h2 := hx x (by rw [ho]; simp [Op.operands]) x' hx'
  have h3 := hx y (by rw [ho]; simp [Op.operands]) y' hy'
  rw [hb] at h1
  have hcb : a.eval c = .bool b := h1.bool_inv
  refine opTo_value (u := if b then a.eval x else a.eval y) ?_ (.same h ?_)
  · simp [execOp, ho, hcb, asBool]
  · cases b <;> assumption

theorem good_newRow (h : WR G st w) (es : List (List LV)) (size n : Nat) (arr : Array Value) (e : TypeId) (h1 : arr.size = n * size) (h2 : es.length ≤ n) (h3 : rowOk G arr es size)
    (v : LV) (u : Value) (hv : VL (G.addLoc st.length (.row w.heap.size size n)) v u) : Good G st w v (st ++ [.row es]) u (w.alloc (.cells arr e)) :=
  let ⟨a, b⟩ := h.newObj (.row es) (.row w.heap.size size n) (.cells arr e) (.inl ⟨es, size, n, arr, e, rfl, rfl, rfl, h1, h2, h3⟩)
  ⟨_, a, hv, b⟩

theorem vl_newPtr (G : Gh) (o blk size n : Nat) : VL (G.addLoc o (.row blk size n)) (.ptr o 0 0) (.pointer (some ⟨blk, 0, none⟩)) := by
  have := VL.ptr (G := G.addLoc o (.row blk size n)) (o := o) (i := 0) (off := 0) (blk := blk) (size := size) (n := n) (by simp [Gh.addLoc])
  simpa using this

theorem op_alloc {e : TypeId} (ho : o.op = .alloc e) {z : List LV} (hz : zeroOf P e = some z) (h : WR G st w) :
    OpTo P o a w (Good G st w (.ptr st.length 0 0) (st ++ [.row [z]])) := by
  unfold zeroOf at hz
  split at hz
  · rename_i i hi
    split at hz
    · rename_i zv hzv
      have hc := constCells_sound G hz
      simp at hc
      refine opTo_value (u := .pointer (some ⟨w.heap.size, 0, none⟩)) (w' := w.alloc (.cells zv.cells e)) ?_ (good_newRow h [z] z.length 1 zv.cells e (by simpa using hc.1) (by simp) hc.toRow _ _ (vl_newPtr ..))
      simp [execOp, ho, Instr.alloc, run_zeroValue hi hzv, newVar, newRow]
    · cases hz
  · cases hz

theorem op_box {e : TypeId} {x : Operand} (ho : o.op = .box e x) {y : LX} (hy : compX x = some y) {cs : List LV} (hcs : (y.ev t).cells? = some cs) (h : WR G st w) (hx : XsR G t a o.op) :
    OpTo P o a w (Good G st w (.ptr st.length 0 0) (st ++ [.row [cs]])) := by
  have h1 := hx x (by rw [ho]; simp [Op.operands]) y hy
  have hc := cells_sound hcs h1
  refine opTo_value (u := .pointer (some ⟨w.heap.size, 0, none⟩)) (w' := w.alloc (.cells (a.eval x).cells e)) ?_ (good_newRow h [cs] cs.length 1 _ e (by simpa using hc.1) (by simp) hc.toRow _ _ (vl_newPtr ..))
  simp [execOp, ho, Instr.box, newVar, newRow]

theorem op_nilChk {x : Operand} (ho : o.op = .nilCheck x) {y : LX} (hy : compX x = some y) (hv : y.ev t = v)
    (hk : (∃ q i off, v = .ptr q i off) ∨ (∃ c off, v = .pin c off) ∨ ∃ f c d, v = .fn (.func f) c d) (h : WR G st w) (hx : XsR G t a o.op) :
    OpTo P o a w (Good G st w v st) := by
  have h1 := hx x (by rw [ho]; simp [Op.operands]) y hy
  rw [hv] at h1
  refine opTo_value (u := a.eval x) ?_ (.same h h1)
  rcases hk with ⟨q, i, off, rfl⟩ | ⟨c, off, rfl⟩ | ⟨f, c, d, rfl⟩
  · obtain ⟨blk, size, n, _, hu⟩ := h1.ptr_inv
    simp [execOp, ho, hu]
  · obtain ⟨b, base, vals, hu, _⟩ := h1.pin_inv
    simp [execOp, ho, hu]
  · obtain ⟨vf, vc, hu, _⟩ := h1.fn_inv
    simp [execOp, ho, hu]

theorem run_intBin {op : BinOp} {k : IntKind} {x y : Int} {q : PV} (hop : op ≠ .shl ∧ op ≠ .shr) (h : ibin op k x y = some q) (ty : TypeId) (w : World) :
    ∃ u, (binOp op ty (.int k x) (.int k y)).run P w = .ok u w ∧ ∀ F, VP F q u := by
  unfold ibin at h
  cases op <;> simp at h hop <;> first
    | (subst h; exact ⟨_, by simp [binOp, Op.intArith, Op.intBits, Op.intCmp]; rfl, fun F => by constructor⟩)
    | (obtain ⟨h0, rfl⟩ := h; exact ⟨_, by simp [binOp, Op.intDiv, h0]; rfl, fun F => by constructor⟩)


@[simp] theorem ba_size (x : List UInt8) : (⟨x.toArray⟩ : ByteArray).size = x.length := by show x.toArray.size = _; simp

theorem run_strBin {op : BinOp} {x y : List UInt8} {q : PV} (h : sbin op x y = some q) (ty : TypeId) (w : World) :
    ∃ u, (binOp op ty (.string ⟨x.toArray⟩) (.string ⟨y.toArray⟩)).run P w = .ok u w ∧ ∀ F, VP F q u := by
  unfold sbin at h
  cases op
  case add =>
    simp only at h
    split at h
    · rename_i hl
      cases h
      refine ⟨.string ⟨(x ++ y).toArray⟩, ?_, fun F => .str _⟩
      have := run_string_add_sum (P := P) w ⟨x.toArray⟩ ⟨y.toArray⟩ (by simpa using hl)
      simp only [binOp]
      rw [this]
      congr 2
    · cases h
  all_goals (simp only [Option.some.injEq, reduceCtorEq] at h; try subst h)
  · exact ⟨.bool (x == y), by simp [binOp, Op.stringOp], fun F => .bool _⟩
  · exact ⟨.bool (!(x == y)), by simp [binOp, Op.stringOp], fun F => .bool _⟩
  · exact ⟨.bool (Op.bytesLess x y), by simp [binOp, Op.stringOp], fun F => .bool _⟩
  · exact ⟨.bool (Op.bytesLess x y || x == y), by simp [binOp, Op.stringOp], fun F => .bool _⟩
  · exact ⟨.bool (!(Op.bytesLess x y || x == y)), by simp [binOp, Op.stringOp], fun F => .bool _⟩
  · exact ⟨.bool (!(Op.bytesLess x y)), by simp [binOp, Op.stringOp], fun F => .bool _⟩

theorem eqGuard_int (op : BinOp) (ty : TypeId) (x y : Operand) (k j : IntKind) (m n : Int) (w : World) : (eqGuard op ty x y (.int k m) (.int j n)).run P w = .ok () w := by
  unfold eqGuard; cases op <;> simp
theorem eqGuard_str (op : BinOp) (ty : TypeId) (x y : Operand) (m n : ByteArray) (w : World) : (eqGuard op ty x y (.string m) (.string n)).run P w = .ok () w := by
  unfold eqGuard; cases op <;> simp
theorem eqGuard_bool (op : BinOp) (ty : TypeId) (x y : Operand) (m n : Bool) (w : World) : (eqGuard op ty x y (.bool m) (.bool n)).run P w = .ok () w := by
  unfold eqGuard; cases op <;> simp
theorem eqGuard_ptr (op : BinOp) (ty : TypeId) (x y : Operand) (m n : Option Addr) (w : World) : (eqGuard op ty x y (.pointer m) (.pointer n)).run P w = .ok () w := by
  unfold eqGuard; cases op <;> simp

theorem op_bin {op : BinOp} {ty ty' : TypeId} {x y : Operand} (ho : o.op = .binOp op ty x y ty') {x' y' : LX} (hx' : compX x = some x') (hy' : compX y = some y')
    {q : PV} (hq : lbin op (x'.ev t) (y'.ev t) = some q) (h : WR G st w) (hx : XsR G t a o.op) : OpTo P o a w (Good G st w (.p q) st) := by
  have h1 := hx x (by rw [ho]; simp [Op.operands]) x' hx'
  have h2 := hx y (by rw [ho]; simp [Op.operands]) y' hy'
  unfold lbin at hq
  split at hq
  · rename_i k m j n e1 e2
    rw [e1] at h1; rw [e2] at h2
    have u1 := h1.int_inv
    have u2 := h2.int_inv
    split at hq
    · split at hq
      · cases hq
      · rename_i hn
        cases hq
        refine opTo_value (u := _) (w' := w) ?_ (.same h (.p (.int _ _)))
        simp [execOp, ho, u1, u2, eqGuard_int, binOp, Op.shift, hn]
    · split at hq
      · cases hq
      · rename_i hn
        cases hq
        refine opTo_value (u := _) (w' := w) ?_ (.same h (.p (.int _ _)))
        simp [execOp, ho, u1, u2, eqGuard_int, binOp, Op.shift, hn]
    · rename_i hs1 hs2
      split at hq
      · rename_i hk
        subst hk
        obtain ⟨u, hu, hv⟩ := run_intBin (P := P) ⟨fun e => hs1 e, fun e => hs2 e⟩ hq ty w
        refine opTo_value (u := u) (w' := w) ?_ (.same h (.p (hv _)))
        simp [execOp, ho, u1, u2, eqGuard_int, hu]
      · cases hq
  · rename_i m n e1 e2
    rw [e1] at h1; rw [e2] at h2
    have u1 := h1.str_inv
    have u2 := h2.str_inv
    obtain ⟨u, hu, hv⟩ := run_strBin (P := P) hq ty w
    refine opTo_value (u := u) (w' := w) ?_ (.same h (.p (hv _)))
    simp [execOp, ho, u1, u2, eqGuard_str, hu]
  · cases hq

theorem run_equal_bool {ty : TypeId} (hty : P.underlying ty = some .bool) (m n : Bool) (w : World) : (Op.equal ty (.bool m) (.bool n)).run P w = .ok (m == n) w := by
  show (Op.equalIn (9999 + 1) ty _ _).run P w = _
  rw [Op.equalIn]
  simp [run_underlying hty]
theorem run_equal_ptr_r {ty el : TypeId} (hty : P.underlying ty = some (.pointer el)) (m : Option Addr) (w : World) : (Op.equal ty (.pointer m) (.pointer none)).run P w = .ok m.isNone w := by
  show (Op.equalIn (9999 + 1) ty _ _).run P w = _
  rw [Op.equalIn]
  cases m <;> simp [run_underlying hty]
theorem run_equal_ptr_l {ty el : TypeId} (hty : P.underlying ty = some (.pointer el)) (m : Option Addr) (w : World) : (Op.equal ty (.pointer none) (.pointer m)).run P w = .ok m.isNone w := by
  show (Op.equalIn (9999 + 1) ty _ _).run P w = _
  rw [Op.equalIn]
  cases m <;> simp [run_underlying hty]

theorem op_beq {neg : Bool} {ty ty' : TypeId} {x y : Operand} (ho : o.op = .binOp (if neg then .neq else .eql) ty x y ty') (hty : P.underlying ty = some .bool) {x' y' : LX} (hx' : compX x = some x') (hy' : compX y = some y')
    {q : PV} (hq : boolbin neg (x'.ev t) (y'.ev t) = some q) (h : WR G st w) (hx : XsR G t a o.op) : OpTo P o a w (Good G st w (.p q) st) := by
  have h1 := hx x (by rw [ho]; simp [Op.operands]) x' hx'
  have h2 := hx y (by rw [ho]; simp [Op.operands]) y' hy'
  unfold boolbin at hq
  split at hq
  · rename_i m n e1 e2
    cases hq
    rw [e1] at h1; rw [e2] at h2
    have u1 := h1.bool_inv
    have u2 := h2.bool_inv
    refine opTo_value (u := .bool ((m == n) != neg)) (w' := w) ?_ (.same h (.p (.bool _)))
    cases neg <;> simp [execOp, ho, u1, u2, eqGuard_bool, binOp, run_equal_bool hty]
  · cases hq

theorem nil_inv {v : LV} {b : Bool} {u : Value} (h : v.isNilPtr = some b) (hv : VL G v u) : ∃ ad : Option Addr, u = .pointer ad ∧ ad.isNone = b := by
  unfold LV.isNilPtr at h
  split at h <;> cases h
  · exact ⟨none, hv.nilp_inv, rfl⟩
  · obtain ⟨_, _, _, _, hu⟩ := hv.ptr_inv; exact ⟨_, hu, rfl⟩
  · obtain ⟨_, _, _, hu, _⟩ := hv.pin_inv; exact ⟨_, hu, rfl⟩

theorem op_peq {neg : Bool} {ty ty' el : TypeId} {x y : Operand} (ho : o.op = .binOp (if neg then .neq else .eql) ty x y ty') (hty : P.underlying ty = some (.pointer el)) {x' y' : LX} (hx' : compX x = some x') (hy' : compX y = some y')
    {q : PV} (hq : nilbin neg (x'.ev t) (y'.ev t) = some q) (h : WR G st w) (hx : XsR G t a o.op) : OpTo P o a w (Good G st w (.p q) st) := by
  have h1 := hx x (by rw [ho]; simp [Op.operands]) x' hx'
  have h2 := hx y (by rw [ho]; simp [Op.operands]) y' hy'
  unfold nilbin at hq
  split at hq
  · rename_i b e1 e2
    cases hq
    obtain ⟨p1, u1, z1⟩ := nil_inv e1 h1
    obtain ⟨p2, u2, z2⟩ := nil_inv e2 h2
    have : p2 = none := by simpa using z2
    subst this
    refine opTo_value (u := .bool (b != neg)) (w' := w) ?_ (.same h (.p (.bool _)))
    subst z1
    cases neg <;> simp [execOp, ho, u1, u2, eqGuard_ptr, binOp, run_equal_ptr_r hty]
  · rename_i b _ e1 e2
    cases hq
    obtain ⟨p1, u1, z1⟩ := nil_inv e1 h1
    obtain ⟨p2, u2, z2⟩ := nil_inv e2 h2
    have : p1 = none := by simpa using z1
    subst this
    refine opTo_value (u := .bool (b != neg)) (w' := w) ?_ (.same h (.p (.bool _)))
    subst z2
    cases neg <;> simp [execOp, ho, u1, u2, eqGuard_ptr, binOp, run_equal_ptr_l hty]
  · cases hq

theorem op_un {op : UnOp} {ty : TypeId} {x : Operand} (ho : o.op = .unOp op ty x) {x' : LX} (hx' : compX x = some x')
    {q : PV} (hq : lun op (x'.ev t) = some q) (h : WR G st w) (hx : XsR G t a o.op) : OpTo P o a w (Good G st w (.p q) st) := by
  have h1 := hx x (by rw [ho]; simp [Op.operands]) x' hx'
  unfold lun at hq
  split at hq
  · rename_i e; cases hq; rw [e] at h1
    refine opTo_value (u := _) (w' := w) ?_ (.same h (.p (.int _ _)))
    simp [execOp, ho, h1.int_inv, Op.unary, Op.intArith]
  · rename_i e; cases hq; rw [e] at h1
    refine opTo_value (u := _) (w' := w) ?_ (.same h (.p (.int _ _)))
    simp [execOp, ho, h1.int_inv, Op.unary, Op.intBits]
  · rename_i e; cases hq; rw [e] at h1
    refine opTo_value (u := _) (w' := w) ?_ (.same h (.p (.bool _)))
    simp [execOp, ho, h1.bool_inv, Op.unary]
  · cases hq

/-! Against nil. -/
def NilOf (k : NK) (u : Value) (b : Bool) : Prop :=
  match k with
  | .slice => ∃ m l c, u = .slice m l c ∧ b = m.isNone
  | .map => ∃ m, u = .map m ∧ b = m.isNone
  | .func => (u = .nilFunc ∧ b = true) ∨ ∃ f x y, u = .func f x y ∧ b = false
  | .iface => (u = .nilIface ∧ b = true) ∨ ∃ x y, u = .iface x y ∧ b = false

theorem VP.sl_shape {F : Nat → Nat → Option Value} {es : List (List PV)} {u : Value} (h : VP F (.sl es) u) : ∃ m l c, u = .slice m l c ∧ (es ≠ [] → m.isNone = false) := by
  cases h with
  | nils => exact ⟨_, _, _, rfl, fun h => (h rfl).elim⟩
  | sl0 a cap hm => exact ⟨_, _, _, rfl, fun h => (h rfl).elim⟩
  | sl => exact ⟨_, _, _, rfl, fun _ => rfl⟩

theorem nilq_sound {G : Gh} {neg : Bool} {k : NK} {v r : LV} {u : Value} (h : v.nilq neg k = some r) (hv : VL G v u) : ∃ b, NilOf k u b ∧ VL G r (.bool (b != neg)) := by
  unfold LV.nilq at h
  split at h <;> cases h
  · cases hv with
    | p hv => obtain ⟨m, l, c, rfl, _⟩ := VP.sl_shape hv; exact ⟨_, ⟨m, l, c, rfl, rfl⟩, .anyb _⟩
  · cases hv with
    | p hv => obtain ⟨m, l, c, rfl, hm⟩ := VP.sl_shape hv; exact ⟨_, ⟨m, l, c, rfl, rfl⟩, by rw [hm (by simp)]; simpa using VL.p (.bool neg)⟩
  · cases hv with
    | tight hv => obtain ⟨m, l, c, e, _⟩ := VP.sl_shape hv; exact ⟨_, ⟨m, l, c, e, rfl⟩, .anyb _⟩
  · cases hv with
    | tight hv => obtain ⟨m, l, c, e, hm⟩ := VP.sl_shape hv; exact ⟨_, ⟨m, l, c, e, rfl⟩, by rw [hm (by simp)]; simpa using VL.p (.bool neg)⟩
  · cases hv with
    | sl hv => exact ⟨_, ⟨_, _, _, rfl, rfl⟩, by simpa using VL.p (.bool neg)⟩
  · cases hv with
    | rs hv => exact ⟨_, ⟨_, _, _, rfl, rfl⟩, by simpa using VL.p (.bool neg)⟩
  · cases hv with
    | p hv => cases hv; exact ⟨_, ⟨_, rfl, rfl⟩, by simpa using VL.p (.bool !neg)⟩
  · cases hv with
    | mp hv => exact ⟨_, ⟨_, rfl, rfl⟩, by simpa using VL.p (.bool neg)⟩
  · cases hv with
    | p hv => cases hv; exact ⟨_, .inl ⟨rfl, rfl⟩, by simpa using VL.p (.bool !neg)⟩
  · cases hv with
    | fn => exact ⟨_, .inr ⟨_, _, _, rfl, rfl⟩, by simpa using VL.p (.bool neg)⟩
  · cases hv with
    | p hv => cases hv; exact ⟨_, .inl ⟨rfl, rfl⟩, by simpa using VL.p (.bool !neg)⟩
  · cases hv with
    | p hv => cases hv; exact ⟨_, .inr ⟨_, _, rfl, rfl⟩, by simpa using VL.p (.bool neg)⟩
  · cases hv with
    | ifc hv => exact ⟨_, .inr ⟨_, _, rfl, rfl⟩, by simpa using VL.p (.bool neg)⟩

theorem run_equal_nil_sl {ty el : TypeId} (hty : P.underlying ty = some (.slice el)) (m : Option Addr) (l c : Nat) (w : World) : (Op.equal ty (.slice m l c) (.slice none 0 0)).run P w = .ok m.isNone w := by
  show (Op.equalIn (9999 + 1) ty _ _).run P w = _
  rw [Op.equalIn]
  cases m <;> simp [run_underlying hty]
theorem run_equal_nil_map {ty k el : TypeId} (hty : P.underlying ty = some (.map k el)) (m : Option Nat) (w : World) : (Op.equal ty (.map m) (.map none)).run P w = .ok m.isNone w := by
  show (Op.equalIn (9999 + 1) ty _ _).run P w = _
  rw [Op.equalIn]
  cases m <;> simp [run_underlying hty]
theorem run_equal_nil_fn0 {ty : TypeId} {x y z} (hty : P.underlying ty = some (.func x y z)) (w : World) : (Op.equal ty .nilFunc .nilFunc).run P w = .ok true w := by
  show (Op.equalIn (9999 + 1) ty _ _).run P w = _
  rw [Op.equalIn]
  simp [run_underlying hty]
theorem run_equal_nil_fn1 {ty : TypeId} {x y z} (hty : P.underlying ty = some (.func x y z)) (f : Fn) (p q : Array Value) (w : World) : (Op.equal ty (.func f p q) .nilFunc).run P w = .ok false w := by
  show (Op.equalIn (9999 + 1) ty _ _).run P w = _
  rw [Op.equalIn]
  simp [run_underlying hty]
theorem run_equal_nil_if0 {ty : TypeId} {x} (hty : P.underlying ty = some (.interface x)) (w : World) : (Op.equal ty .nilIface .nilIface).run P w = .ok true w := by
  show (Op.equalIn (9999 + 1) ty _ _).run P w = _
  rw [Op.equalIn]
  simp [run_underlying hty]
theorem run_equal_nil_if1 {ty : TypeId} {x} (hty : P.underlying ty = some (.interface x)) (t : TypeId) (v : Value) (w : World) : (Op.equal ty (.iface t v) .nilIface).run P w = .ok false w := by
  show (Op.equalIn (9999 + 1) ty _ _).run P w = _
  rw [Op.equalIn]
  simp [run_underlying hty]

theorem op_nileq {neg : Bool} {ty ty' : TypeId} {x y : Operand} (ho : o.op = .binOp (if neg then .neq else .eql) ty x y ty') {k : NK} {c : Value} (hy : y = .const c)
    (hk : match k with
      | .slice => (∃ e, P.underlying ty = some (.slice e)) ∧ c = .slice none 0 0
      | .map => (∃ e f, P.underlying ty = some (.map e f)) ∧ c = .map none
      | .func => (∃ e f g, P.underlying ty = some (.func e f g)) ∧ c = .nilFunc
      | .iface => (∃ e, P.underlying ty = some (.interface e)) ∧ c = .nilIface)
    {x' : LX} (hx' : compX x = some x') {r : LV} (hq : (x'.ev t).nilq neg k = some r) (h : WR G st w) (hx : XsR G t a o.op) : OpTo P o a w (Good G st w r st) := by
  have h1 := hx x (by rw [ho]; simp [Op.operands]) x' hx'
  obtain ⟨b, hb, hr⟩ := nilq_sound hq h1
  subst hy
  have hcst : ∀ z : Value, a.eval (.const z) = z := fun z => rfl
  refine opTo_value (u := .bool (b != neg)) (w' := w) ?_ (.same h hr)
  cases k with
  | slice =>
    obtain ⟨m, l, cc, hu, rfl⟩ := hb
    obtain ⟨⟨e, hty⟩, rfl⟩ := hk
    cases neg <;> simp [execOp, ho, hu, hcst, eqGuard, binOp, run_equal_nil_sl hty]
  | map =>
    obtain ⟨m, hu, rfl⟩ := hb
    obtain ⟨⟨e, f, hty⟩, rfl⟩ := hk
    cases neg <;> simp [execOp, ho, hu, hcst, eqGuard, binOp, run_equal_nil_map hty]
  | func =>
    obtain ⟨⟨e, f, g, hty⟩, rfl⟩ := hk
    rcases hb with ⟨hu, rfl⟩ | ⟨p, q, s, hu, rfl⟩
    · cases neg <;> simp [execOp, ho, hu, hcst, eqGuard, binOp, run_equal_nil_fn0 hty]
    · cases neg <;> simp [execOp, ho, hu, hcst, eqGuard, binOp, run_equal_nil_fn1 hty]
  | iface =>
    obtain ⟨⟨e, hty⟩, rfl⟩ := hk
    rcases hb with ⟨hu, rfl⟩ | ⟨p, q, hu, rfl⟩
    · cases neg <;> simp [execOp, ho, hu, hcst, eqGuard, binOp, run_equal_nil_if0 hty]
    · cases neg <;> simp [execOp, ho, hu, hcst, eqGuard, binOp, run_equal_nil_if1 hty]

theorem op_nil {op : BinOp} {ty ty' : TypeId} {x y : Operand} (ho : o.op = .binOp op ty x y ty') {lop : LOp} (hc : compNil P op ty x y = some lop) {call : CallF} {v : LV} {st' : List LObj}
    (hs : opStep call t st lop = some (v, st')) (h : WR G st w) (hx : XsR G t a o.op) : OpTo P o a w (Good G st w v st') := by
  unfold compNil at hc
  split at hc
  · split at hc <;> cases hc <;> simp only [opStep] at hs <;> split at hs <;> cases hs
    · exact op_nileq (neg := false) (k := .slice) ho rfl ⟨⟨_, ‹_›⟩, rfl⟩ ‹_› ‹_› h hx
    · exact op_nileq (neg := false) (k := .map) ho rfl ⟨⟨_, _, ‹_›⟩, rfl⟩ ‹_› ‹_› h hx
    · exact op_nileq (neg := false) (k := .func) ho rfl ⟨⟨_, _, _, ‹_›⟩, rfl⟩ ‹_› ‹_› h hx
    · exact op_nileq (neg := false) (k := .iface) ho rfl ⟨⟨_, ‹_›⟩, rfl⟩ ‹_› ‹_› h hx
  · split at hc <;> cases hc <;> simp only [opStep] at hs <;> split at hs <;> cases hs
    · exact op_nileq (neg := true) (k := .slice) ho rfl ⟨⟨_, ‹_›⟩, rfl⟩ ‹_› ‹_› h hx
    · exact op_nileq (neg := true) (k := .map) ho rfl ⟨⟨_, _, ‹_›⟩, rfl⟩ ‹_› ‹_› h hx
    · exact op_nileq (neg := true) (k := .func) ho rfl ⟨⟨_, _, _, ‹_›⟩, rfl⟩ ‹_› ‹_› h hx
    · exact op_nileq (neg := true) (k := .iface) ho rfl ⟨⟨_, ‹_›⟩, rfl⟩ ‹_› ‹_› h hx
  · cases hc

end ops
end Go.LS

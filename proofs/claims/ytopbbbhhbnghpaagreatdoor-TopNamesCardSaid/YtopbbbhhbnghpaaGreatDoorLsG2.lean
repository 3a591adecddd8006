/- A small semantics of loaded Go code that the kernel can run, part 2. -/
import Derived.Test.YtopbbbhhbnghpaaGreatDoorLsG1
import Derived.Laws.Append
import Derived.Laws.Tables
import Derived.Laws.BytesString
import Derived.Laws.IdiomStrings
import Derived.Laws.Concat
import Derived.Laws.Strings
import Derived.Laws.RangeAny
import Derived.Laws.Slices
import Derived.Laws.RangeString
import Derived.Laws.MakeOwn
set_option linter.unusedVariables false
set_option linter.unusedSimpArgs false
namespace Go.LS
def CellsR (G : Gh) (cs : List LV) (arr : Array Value) : Prop :=
  arr.size = cs.length ∧ ∀ (i : Nat) x, cs[i]? = some x → ∃ y, arr[i]? = some y ∧ VL G x y ∧ y.oneCell' = true
theorem CellsR.mono {G G' : Gh} (hG : G.le G') {cs : List LV} {arr : Array Value} (h : CellsR G cs arr) : CellsR G' cs arr :=
  ⟨h.1, fun i x hx => let ⟨y, a, b, c⟩ := h.2 i x hx; ⟨y, a, b.mono hG, c⟩⟩
theorem CellsR.nil (G : Gh) : CellsR G [] #[] := ⟨rfl, by simp⟩
theorem CellsR.cons {G : Gh} {x : LV} {y : Value} {cs : List LV} {l : List Value} (h1 : VL G x y) (h2 : y.oneCell' = true) (h : CellsR G cs l.toArray) :
    CellsR G (x :: cs) (y :: l).toArray := by
  refine ⟨by have := h.1; simp at this ⊢; omega, fun i z hz => ?_⟩
  cases i with
  | zero => simp at hz; subst hz; exact ⟨y, by simp, h1, h2⟩
  | succ i => simp at hz; obtain ⟨u, a, b, c⟩ := h.2 i z hz; exact ⟨u, by simpa using a, b, c⟩
theorem constCell_sound (G : Gh) {v : Value} {x : LV} (h : constCell v = some x) : VL G x v ∧ v.oneCell' = true := by
  unfold constCell at h
  split at h <;> cases h <;> refine ⟨?_, rfl⟩
  · exact .p (.bool _)
  · exact .p (.int _ _)
  · rename_i s; cases s with | mk d => exact .p (VP.str d.toList)
  · exact .p .nilp
  · exact .tight (es := []) .nils
  · exact .p .nilm
  · exact .p .nilf
  · exact .p .nili
theorem constCells_sound (G : Gh) : ∀ {l : List Value} {xs : List LV}, constCells l = some xs → CellsR G xs l.toArray
  | [], xs, h => by cases h; exact .nil G
  | v :: r, xs, h => by
    simp only [constCells] at h
    split at h
    · rename_i x l hx hl
      cases h
      have := constCell_sound G hx
      exact .cons this.1 this.2 (constCells_sound G hl)
    · cases h
theorem constLV_sound (G : Gh) {v : Value} {x : LV} (h : constLV v = some x) : VL G x v := by
  unfold constLV at h
  split at h
  · split at h
    · rename_i cs _ l hl
      cases h
      have := constCells_sound G hl
      refine .agg cs (by simpa using this.1) ?_ ?_
      · intro i u hu
        have hi : i < l.length := by
          have := (Array.getElem?_eq_some_iff.1 hu).1
          have h2 := ‹CellsR G l _›.1
          simp at h2; omega
        obtain ⟨y, a, _, c⟩ := this.2 i l[i] (by simp [hi])
        simp at a
        rw [hu] at a
        cases a; exact c
      · intro i y hy
        obtain ⟨u, a, b, _⟩ := this.2 i y hy
        simp at a
        simpa [Array.getD_eq_getD_getElem?, a] using b
    · cases h
  · exact (constCell_sound G h).1
def XsR (G : Gh) (t : List LV) (a : Act) (op : Op) : Prop := ∀ x ∈ op.operands, ∀ y, compX x = some y → VL G (y.ev t) (a.eval x)
theorem cells_sound {G : Gh} {v : LV} {cs : List LV} {u : Value} (h : v.cells? = some cs) (hv : VL G v u) : CellsR G cs u.cells := by
  cases hv with
  | agg vs h1 h2 h3 =>
    simp only [LV.cells?] at h
    cases h
    refine ⟨h1, fun i x hx => ?_⟩
    have hi : i < vs.size := by rw [h1]; exact (List.getElem?_eq_some_iff.1 hx).1
    exact ⟨vs[i], by simp [Value.cells, hi], by have := h3 i x hx; simpa [hi] using this, h2 i _ (by simp [hi])⟩
  | und => simp [LV.cells?] at h
  | anyb => simp [LV.cells?] at h
  | gr => simp [LV.cells?] at h
  | tup => simp [LV.cells?] at h
  | p hp =>
    simp only [LV.cells?] at h; cases h
    have := hp.one
    rw [show u.cells = #[u] by cases u <;> simp_all [Value.cells, Value.oneCell']]
    exact .cons (.p hp) this (.nil G)
  | sl h1 h2 h3 h4 => simp only [LV.cells?] at h; cases h; exact .cons (.sl h1 h2 h3 h4) rfl (.nil G)
  | tight h1 => simp only [LV.cells?] at h; cases h; exact .cons (.tight h1) rfl (.nil G)
  | ptr h1 => simp only [LV.cells?] at h; cases h; exact .cons (.ptr h1) rfl (.nil G)
  | pin vals h1 h2 => simp only [LV.cells?] at h; cases h; exact .cons (.pin vals h1 h2) rfl (.nil G)
  | rs h1 h2 h3 h4 => simp only [LV.cells?] at h; cases h; exact .cons (.rs h1 h2 h3 h4) rfl (.nil G)
  | mp h1 => simp only [LV.cells?] at h; cases h; exact .cons (.mp h1) rfl (.nil G)
  | it h1 => simp only [LV.cells?] at h; cases h; exact .cons (.it h1) rfl (.nil G)
  | fn f vf vc h1 h2 h3 h4 => simp only [LV.cells?] at h; cases h; exact .cons (.fn f vf vc h1 h2 h3 h4) rfl (.nil G)
  | ifc t h1 => simp only [LV.cells?] at h; cases h; exact .cons (.ifc t h1) rfl (.nil G)
theorem ofCells_sound {G : Gh} {agg : Bool} {cs : List LV} {v : LV} {arr : Array Value} (h : CellsR G cs arr) (ho : ofCells agg cs = some v) :
    (agg = true ∧ VL G v (.agg arr)) ∨ (agg = false ∧ ∃ y, arr = #[y] ∧ VL G v y ∧ y.oneCell' = true) := by
  unfold ofCells at ho
  cases agg with
  | true =>
    simp at ho; subst ho
    refine .inl ⟨rfl, .agg arr h.1 ?_ ?_⟩
    · intro i u hu
      have hi : i < cs.length := by have := (Array.getElem?_eq_some_iff.1 hu).1; have := h.1; omega
      obtain ⟨y, a, _, c⟩ := h.2 i cs[i] (by simp [hi])
      rw [hu] at a; cases a; exact c
    · intro i x hx
      obtain ⟨y, a, b, _⟩ := h.2 i x hx
      simpa [Array.getD_eq_getD_getElem?, a] using b
  | false =>
    simp at ho
    split at ho
    · rename_i w
      cases ho
      obtain ⟨y, a, b, c⟩ := h.2 0 v rfl
      refine .inr ⟨rfl, y, ?_, b, c⟩
      apply Array.ext_getElem?
      intro i
      have hz := h.1
      simp at hz
      cases i with
      | zero => simpa using a
      | succ i => rw [Array.getElem?_eq_none (by omega), Array.getElem?_eq_none (by simp)]
    · cases ho
theorem CellsR.toRow {G : Gh} {cs : List LV} {arr : Array Value} (h : CellsR G cs arr) : rowOk G arr [cs] cs.length := by
  refine ⟨by simp, fun i j c hc => ?_⟩
  cases i with
  | zero => simp only [at2, List.getElem?_cons_zero, Option.bind_some] at hc; obtain ⟨y, a⟩ := h.2 j c hc; exact ⟨y, by simpa using a⟩
  | succ i => simp [at2] at hc
theorem toPV_sound {G : Gh} : ∀ {v : LV} {q : PV} {u : Value}, v.toPV = some q → VL G v u → VP G.F q u
  | .p v, q, u, h, hv => by simp only [LV.toPV] at h; cases h; cases hv; assumption
  | .sl es t fin, q, u, h, hv => by simp only [LV.toPV] at h; cases h; cases hv; assumption
  | .tight es, q, u, h, hv => by simp only [LV.toPV] at h; cases h; cases hv; assumption
  | .ifc t v, q, u, h, hv => by
    simp only [LV.toPV] at h
    split at h
    · rename_i q' hq
      cases h
      cases hv with
      | ifc t h1 => exact .ifc t _ _ (toPV_sound hq h1)
    · cases h
  | .und, q, u, h, hv => by simp [LV.toPV] at h
  | .ptr _ _ _, q, u, h, hv => by simp [LV.toPV] at h
  | .pin _ _, q, u, h, hv => by simp [LV.toPV] at h
  | .rs _ _ _, q, u, h, hv => by simp [LV.toPV] at h
  | .mp _, q, u, h, hv => by simp [LV.toPV] at h
  | .it _, q, u, h, hv => by simp [LV.toPV] at h
  | .fn _ _ _, q, u, h, hv => by simp [LV.toPV] at h
  | .agg _, q, u, h, hv => by simp [LV.toPV] at h
  | .tup _, q, u, h, hv => by simp [LV.toPV] at h
theorem asSl_sound {G : Gh} {v : LV} {es : List (List PV)} {u : Value} (h : v.asSl = some es) (hv : VL G v u) : VP G.F (.sl es) u := by
  unfold LV.asSl at h
  split at h <;> cases h <;> cases hv <;> assumption
theorem VP.slice {F : Nat → Nat → Option Value} {es : List (List PV)} {u : Value} (h : VP F (.sl es) u) :
    (es = [] ∧ u = .slice none 0 0) ∨ (∃ size b o cap, u = .slice (some ⟨b, o, none⟩) es.length cap ∧ es.length ≤ cap ∧ cap ≤ maxLen ∧ (∀ e ∈ es, e.length = size) ∧
      ∃ vals : Nat → Nat → Value, (∀ i j p, at2 es i j = some p → F b (o + i * size + j) = some (vals i j)) ∧ ∀ i j p, at2 es i j = some p → VP F p (vals i j)) ∨
    (es = [] ∧ ∃ a cap, u = .slice (some a) 0 cap ∧ cap ≤ maxLen) := by
  cases h with
  | nils => exact .inl ⟨rfl, rfl⟩
  | sl _ size b o cap vals h1 h2 h3 h4 h5 => exact .inr (.inl ⟨size, b, o, cap, rfl, h1, h2, h3, vals, h4, h5⟩)
  | sl0 a cap hm => exact .inr (.inr ⟨rfl, a, cap, rfl, hm⟩)
theorem VL.bool_inv {G : Gh} {b : Bool} {u : Value} (h : VL G (.p (.bool b)) u) : u = .bool b := by cases h with | p h => cases h; rfl
theorem VL.int_inv {G : Gh} {k : IntKind} {n : Int} {u : Value} (h : VL G (.p (.int k n)) u) : u = .int k n := by cases h with | p h => cases h; rfl
theorem VL.str_inv {G : Gh} {s : List UInt8} {u : Value} (h : VL G (.p (.str s)) u) : u = .string ⟨s.toArray⟩ := by cases h with | p h => cases h; rfl
theorem VL.nilp_inv {G : Gh} {u : Value} (h : VL G (.p .nilp) u) : u = .pointer none := by cases h with | p h => cases h; rfl
theorem VL.nilm_inv {G : Gh} {u : Value} (h : VL G (.p .nilm) u) : u = .map none := by cases h with | p h => cases h; rfl
theorem VL.ptr_inv {G : Gh} {o i off : Nat} {u : Value} (h : VL G (.ptr o i off) u) : ∃ blk size n, G.loc o = some (.row blk size n) ∧ u = .pointer (some ⟨blk, i * size + off, none⟩) := by
  cases h with | ptr h => exact ⟨_, _, _, h, rfl⟩
theorem VL.pin_inv {G : Gh} {cells : List PV} {off : Nat} {u : Value} (h : VL G (.pin cells off) u) : ∃ (b base : Nat) (vals : Nat → Value), u = .pointer (some ⟨b, base + off, none⟩) ∧
    (∀ j p, cells[j]? = some p → G.F b (base + j) = some (vals j)) ∧ ∀ j p, cells[j]? = some p → VP G.F p (vals j) := by
  cases h with | pin vals h1 h2 => exact ⟨_, _, vals, rfl, h1, h2⟩
theorem VL.rs_inv {G : Gh} {o off len : Nat} {u : Value} (h : VL G (.rs o off len) u) : ∃ blk size n cap, G.loc o = some (.row blk size n) ∧ u = .slice (some ⟨blk, off * size, none⟩) len cap ∧ cap ≤ maxLen ∧ len ≤ cap ∧ off + cap = n := by
  cases h with | rs h1 h2 h3 h4 => exact ⟨_, _, _, _, h1, rfl, h2, h3, h4⟩
theorem VL.mp_inv {G : Gh} {o : Nat} {u : Value} (h : VL G (.mp o) u) : ∃ blk, G.loc o = some (.map blk) ∧ u = .map (some blk) := by cases h with | mp h => exact ⟨_, h, rfl⟩
theorem VL.it_inv {G : Gh} {o : Nat} {u : Value} (h : VL G (.it o) u) : ∃ blk, G.loc o = some (.iter blk) ∧ u = .pointer (some ⟨blk, 0, none⟩) := by cases h with | it h => exact ⟨_, h, rfl⟩
theorem VL.fn_inv {G : Gh} {f : Fn} {c d : List LV} {u : Value} (h : VL G (.fn f c d) u) : ∃ vf vc : Array Value, u = .func f vf vc ∧ vf.size = c.length ∧ vc.size = d.length ∧
    (∀ (i : Nat) x, c[i]? = some x → VL G x (vf.getD i undef)) ∧ ∀ (i : Nat) x, d[i]? = some x → VL G x (vc.getD i undef) := by
  cases h with | fn f vf vc h1 h2 h3 h4 => exact ⟨vf, vc, rfl, h1, h2, h3, h4⟩
theorem VL.agg_inv {G : Gh} {cs : List LV} {u : Value} (h : VL G (.agg cs) u) : ∃ vs, u = .agg vs ∧ CellsR G cs vs := by
  have := cells_sound (cs := cs) rfl h
  cases h with | agg vs h1 h2 h3 => exact ⟨vs, rfl, this⟩
theorem VL.tup_inv {G : Gh} {cs : List LV} {u : Value} (h : VL G (.tup cs) u) : ∃ vs, u = .tuple vs ∧ vs.size = cs.length ∧ ∀ (i : Nat) x, cs[i]? = some x → VL G x (vs.getD i undef) := by
  cases h with | tup vs h1 h2 => exact ⟨vs, rfl, h1, h2⟩
def Good (G : Gh) (st : List LObj) (w : World) (v : LV) (st' : List LObj) (u : Value) (w' : World) : Prop :=
  ∃ G', WR G' st' w' ∧ VL G' v u ∧ Ext G st w G' st' w'
theorem Good.same {G : Gh} {st : List LObj} {w : World} {v : LV} {u : Value} (h : WR G st w) (hv : VL G v u) : Good G st w v st u w := ⟨G, h, hv, .refl ..⟩
def OpTo (P : Program) (o : Oper) (a : Act) (w : World) (R : Value → World → Prop) : Prop :=
  ∀ (next : Act → World → Prop) (Q : Exit → Act → World → Prop), (∀ u w', R u w' → next (a.put o.dst u) w') → o.wp P a w next Q
theorem opTo_value {P : Program} {o : Oper} {a : Act} {w w' : World} {u : Value} {R : Value → World → Prop} (h : (execOp a.eval o).run P w = .ok (.value u) w') (hR : R u w') : OpTo P o a w R := by
  intro next Q hn
  unfold Oper.wp
  rw [h]
  exact hn u w' hR
theorem opTo_skip {P : Program} {o : Oper} {a : Act} {w w' : World} {R : Value → World → Prop} (h : (execOp a.eval o).run P w = .ok .skip w') (hR : R undef w') : OpTo P o a w R := by
  intro next Q hn
  unfold Oper.wp
  rw [h]
  exact hn undef w' hR
theorem VL.unit (G : Gh) : VL G (.tup []) undef := .tup #[] rfl (by simp)
section ops
variable {P : Program} {G : Gh} {st st' : List LObj} {w : World} {t : List LV} {a : Act} {o : Oper} {v : LV}
theorem run_zeroValue {i : TypeInfo} {z : Value} {e : TypeId} (hi : P.info? e = some i) (hz : i.zero = some z) (w : World) : (zeroValue e).run P w = .ok z w := by
  simp [zeroValue, typeInfo, hi, hz]
theorem op_mv {x : Operand} (ho : o.op = .move x ∨ o.op = .assign x) {y : LX} (hy : compX x = some y) (h : WR G st w) (hx : XsR G t a o.op) :
    OpTo P o a w (Good G st w (y.ev t) st) := by
  have hm : x ∈ o.op.operands := by rcases ho with ho | ho <;> rw [ho] <;> simp [Op.operands]
  refine opTo_value (u := a.eval x) ?_ (.same h (hx x hm y hy))
  rcases ho with ho | ho <;> simp [execOp, ho]
theorem op_pick {c x y : Operand} (ho : o.op = .pick c x y) {c' x' y' : LX} (hc : compX c = some c') (hx' : compX x = some x') (hy' : compX y = some y')
    (h : WR G st w) (hx : XsR G t a o.op) {b : Bool} (hb : c'.ev t = .p (.bool b)) : OpTo P o a w (Good G st w (if b then x'.ev t else y'.ev t) st) := by
  have h1 := hx c (by rw [ho]; simp [Op.operands]) c' hc
  have h2 := hx x (by rw [ho]; simp [Op.operands]) x' hx'
  have h3 := hx y (by rw [ho]; simp [Op.operands]) y' hy'
  rw [hb] at h1
  have hcb : a.eval c = .bool b := h1.bool_inv
  refine opTo_value (u := if b then a.eval x else a.eval y) ?_ (.same h ?_)
  · simp [execOp, ho, hcb, asBool]
  · cases b <;> assumption
theorem good_newRow (h : WR G st w) (es : List (List LV)) (size n : Nat) (arr : Array Value) (e : TypeId) (h1 : arr.size = n * size) (h2 : es.length ≤ n) (h3 : rowOk G arr es size)
    (v : LV) (u : Value) (hv : VL (G.addLoc st.length (.row w.heap.size size n)) v u) : Good G st w v (st ++ [.row es]) u (w.alloc (.cells arr e)) :=
  let ⟨a, b⟩ := h.newObj (.row es) (.row w.heap.size size n) (.cells arr e) (.inl ⟨es, size, n, arr, e, rfl, rfl, rfl, h1, h2, h3⟩)
  ⟨_, a, hv, b⟩
theorem vl_newPtr (G : Gh) (o blk size n : Nat) : VL (G.addLoc o (.row blk size n)) (.ptr o 0 0) (.pointer (some ⟨blk, 0, none⟩)) := by
  have := VL.ptr (G := G.addLoc o (.row blk size n)) (o := o) (i := 0) (off := 0) (blk := blk) (size := size) (n := n) (by simp [Gh.addLoc])
  simpa using this
theorem op_alloc {e : TypeId} (ho : o.op = .alloc e) {z : List LV} (hz : zeroOf P e = some z) (h : WR G st w) :
    OpTo P o a w (Good G st w (.ptr st.length 0 0) (st ++ [.row [z]])) := by
  unfold zeroOf at hz
  split at hz
  · rename_i i hi
    split at hz
    · rename_i zv hzv
      have hc := constCells_sound G hz
      simp at hc
      refine opTo_value (u := .pointer (some ⟨w.heap.size, 0, none⟩)) (w' := w.alloc (.cells zv.cells e)) ?_ (good_newRow h [z] z.length 1 zv.cells e (by simpa using hc.1) (by simp) hc.toRow _ _ (vl_newPtr ..))
      simp [execOp, ho, Instr.alloc, run_zeroValue hi hzv, newVar, newRow]
    · cases hz
  · cases hz
theorem op_box {e : TypeId} {x : Operand} (ho : o.op = .box e x) {y : LX} (hy : compX x = some y) {cs : List LV} (hcs : (y.ev t).cells? = some cs) (h : WR G st w) (hx : XsR G t a o.op) :
    OpTo P o a w (Good G st w (.ptr st.length 0 0) (st ++ [.row [cs]])) := by
  have h1 := hx x (by rw [ho]; simp [Op.operands]) y hy
  have hc := cells_sound hcs h1
  refine opTo_value (u := .pointer (some ⟨w.heap.size, 0, none⟩)) (w' := w.alloc (.cells (a.eval x).cells e)) ?_ (good_newRow h [cs] cs.length 1 _ e (by simpa using hc.1) (by simp) hc.toRow _ _ (vl_newPtr ..))
  simp [execOp, ho, Instr.box, newVar, newRow]
theorem op_nilChk {x : Operand} (ho : o.op = .nilCheck x) {y : LX} (hy : compX x = some y) (hv : y.ev t = v)
    (hk : (∃ q i off, v = .ptr q i off) ∨ (∃ c off, v = .pin c off) ∨ ∃ f c d, v = .fn (.func f) c d) (h : WR G st w) (hx : XsR G t a o.op) :
    OpTo P o a w (Good G st w v st) := by
  have h1 := hx x (by rw [ho]; simp [Op.operands]) y hy
  rw [hv] at h1
  refine opTo_value (u := a.eval x) ?_ (.same h h1)
  rcases hk with ⟨q, i, off, rfl⟩ | ⟨c, off, rfl⟩ | ⟨f, c, d, rfl⟩
  · obtain ⟨blk, size, n, _, hu⟩ := h1.ptr_inv
    simp [execOp, ho, hu]
  · obtain ⟨b, base, vals, hu, _⟩ := h1.pin_inv
    simp [execOp, ho, hu]
  · obtain ⟨vf, vc, hu, _⟩ := h1.fn_inv
    simp [execOp, ho, hu]
theorem run_intBin {op : BinOp} {k : IntKind} {x y : Int} {q : PV} (hop : op ≠ .shl ∧ op ≠ .shr) (h : ibin op k x y = some q) (ty : TypeId) (w : World) :
    ∃ u, (binOp op ty (.int k x) (.int k y)).run P w = .ok u w ∧ ∀ F, VP F q u := by
  unfold ibin at h
  cases op <;> simp at h hop <;> first
    | (subst h; exact ⟨_, by simp [binOp, Op.intArith, Op.intBits, Op.intCmp]; rfl, fun F => by constructor⟩)
    | (obtain ⟨h0, rfl⟩ := h; exact ⟨_, by simp [binOp, Op.intDiv, h0]; rfl, fun F => by constructor⟩)
@[simp] theorem ba_size (x : List UInt8) : (⟨x.toArray⟩ : ByteArray).size = x.length := by show x.toArray.size = _; simp
theorem run_strBin {op : BinOp} {x y : List UInt8} {q : PV} (h : sbin op x y = some q) (ty : TypeId) (w : World) :
    ∃ u, (binOp op ty (.string ⟨x.toArray⟩) (.string ⟨y.toArray⟩)).run P w = .ok u w ∧ ∀ F, VP F q u := by
  unfold sbin at h
  cases op
  case add =>
    simp only at h
    split at h
    · rename_i hl
      cases h
      refine ⟨.string ⟨(x ++ y).toArray⟩, ?_, fun F => .str _⟩
      have := run_string_add_sum (P := P) w ⟨x.toArray⟩ ⟨y.toArray⟩ (by simpa using hl)
      simp only [binOp]
      rw [this]
      congr 2
    · cases h
  all_goals (simp only [Option.some.injEq, reduceCtorEq] at h; try subst h)
  · exact ⟨.bool (x == y), by simp [binOp, Op.stringOp], fun F => .bool _⟩
  · exact ⟨.bool (!(x == y)), by simp [binOp, Op.stringOp], fun F => .bool _⟩
  · exact ⟨.bool (Op.bytesLess x y), by simp [binOp, Op.stringOp], fun F => .bool _⟩
  · exact ⟨.bool (Op.bytesLess x y || x == y), by simp [binOp, Op.stringOp], fun F => .bool _⟩
  · exact ⟨.bool (!(Op.bytesLess x y || x == y)), by simp [binOp, Op.stringOp], fun F => .bool _⟩
  · exact ⟨.bool (!(Op.bytesLess x y)), by simp [binOp, Op.stringOp], fun F => .bool _⟩
theorem eqGuard_int (op : BinOp) (ty : TypeId) (x y : Operand) (k j : IntKind) (m n : Int) (w : World) : (eqGuard op ty x y (.int k m) (.int j n)).run P w = .ok () w := by
  unfold eqGuard; cases op <;> simp
theorem eqGuard_str (op : BinOp) (ty : TypeId) (x y : Operand) (m n : ByteArray) (w : World) : (eqGuard op ty x y (.string m) (.string n)).run P w = .ok () w := by
  unfold eqGuard; cases op <;> simp
theorem eqGuard_bool (op : BinOp) (ty : TypeId) (x y : Operand) (m n : Bool) (w : World) : (eqGuard op ty x y (.bool m) (.bool n)).run P w = .ok () w := by
  unfold eqGuard; cases op <;> simp
theorem eqGuard_ptr (op : BinOp) (ty : TypeId) (x y : Operand) (m n : Option Addr) (w : World) : (eqGuard op ty x y (.pointer m) (.pointer n)).run P w = .ok () w := by
  unfold eqGuard; cases op <;> simp
theorem op_bin {op : BinOp} {ty ty' : TypeId} {x y : Operand} (ho : o.op = .binOp op ty x y ty') {x' y' : LX} (hx' : compX x = some x') (hy' : compX y = some y')
    {q : PV} (hq : lbin op (x'.ev t) (y'.ev t) = some q) (h : WR G st w) (hx : XsR G t a o.op) : OpTo P o a w (Good G st w (.p q) st) := by
  have h1 := hx x (by rw [ho]; simp [Op.operands]) x' hx'
  have h2 := hx y (by rw [ho]; simp [Op.operands]) y' hy'
  unfold lbin at hq
  split at hq
  · rename_i k m j n e1 e2
    rw [e1] at h1; rw [e2] at h2
    have u1 := h1.int_inv
    have u2 := h2.int_inv
    split at hq
    · split at hq
      · cases hq
      · rename_i hn
        cases hq
        refine opTo_value (u := _) (w' := w) ?_ (.same h (.p (.int _ _)))
        simp [execOp, ho, u1, u2, eqGuard_int, binOp, Op.shift, hn]
    · split at hq
      · cases hq
      · rename_i hn
        cases hq
        refine opTo_value (u := _) (w' := w) ?_ (.same h (.p (.int _ _)))
        simp [execOp, ho, u1, u2, eqGuard_int, binOp, Op.shift, hn]
    · rename_i hs1 hs2
      split at hq
      · rename_i hk
        subst hk
        obtain ⟨u, hu, hv⟩ := run_intBin (P := P) ⟨fun e => hs1 e, fun e => hs2 e⟩ hq ty w
        refine opTo_value (u := u) (w' := w) ?_ (.same h (.p (hv _)))
        simp [execOp, ho, u1, u2, eqGuard_int, hu]
      · cases hq
  · rename_i m n e1 e2
    rw [e1] at h1; rw [e2] at h2
    have u1 := h1.str_inv
    have u2 := h2.str_inv
    obtain ⟨u, hu, hv⟩ := run_strBin (P := P) hq ty w
    refine opTo_value (u := u) (w' := w) ?_ (.same h (.p (hv _)))
    simp [execOp, ho, u1, u2, eqGuard_str, hu]
  · cases hq
theorem run_equal_bool {ty : TypeId} (hty : P.underlying ty = some .bool) (m n : Bool) (w : World) : (Op.equal ty (.bool m) (.bool n)).run P w = .ok (m == n) w := by
  show (Op.equalIn (9999 + 1) ty _ _).run P w = _
  rw [Op.equalIn]
  simp [run_underlying hty]
theorem run_equal_ptr_r {ty el : TypeId} (hty : P.underlying ty = some (.pointer el)) (m : Option Addr) (w : World) : (Op.equal ty (.pointer m) (.pointer none)).run P w = .ok m.isNone w := by
  show (Op.equalIn (9999 + 1) ty _ _).run P w = _
  rw [Op.equalIn]
  cases m <;> simp [run_underlying hty]
theorem run_equal_ptr_l {ty el : TypeId} (hty : P.underlying ty = some (.pointer el)) (m : Option Addr) (w : World) : (Op.equal ty (.pointer none) (.pointer m)).run P w = .ok m.isNone w := by
  show (Op.equalIn (9999 + 1) ty _ _).run P w = _
  rw [Op.equalIn]
  cases m <;> simp [run_underlying hty]
theorem op_beq {neg : Bool} {ty ty' : TypeId} {x y : Operand} (ho : o.op = .binOp (if neg then .neq else .eql) ty x y ty') (hty : P.underlying ty = some .bool) {x' y' : LX} (hx' : compX x = some x') (hy' : compX y = some y')
    {q : PV} (hq : boolbin neg (x'.ev t) (y'.ev t) = some q) (h : WR G st w) (hx : XsR G t a o.op) : OpTo P o a w (Good G st w (.p q) st) := by
  have h1 := hx x (by rw [ho]; simp [Op.operands]) x' hx'
  have h2 := hx y (by rw [ho]; simp [Op.operands]) y' hy'
  unfold boolbin at hq
  split at hq
  · rename_i m n e1 e2
    cases hq
    rw [e1] at h1; rw [e2] at h2
    have u1 := h1.bool_inv
    have u2 := h2.bool_inv
    refine opTo_value (u := .bool ((m == n) != neg)) (w' := w) ?_ (.same h (.p (.bool _)))
    cases neg <;> simp [execOp, ho, u1, u2, eqGuard_bool, binOp, run_equal_bool hty]
  · cases hq
theorem nil_inv {v : LV} {b : Bool} {u : Value} (h : v.isNilPtr = some b) (hv : VL G v u) : ∃ ad : Option Addr, u = .pointer ad ∧ ad.isNone = b := by
  unfold LV.isNilPtr at h
  split at h <;> cases h
  · exact ⟨none, hv.nilp_inv, rfl⟩
  · obtain ⟨_, _, _, _, hu⟩ := hv.ptr_inv; exact ⟨_, hu, rfl⟩
  · obtain ⟨_, _, _, hu, _⟩ := hv.pin_inv; exact ⟨_, hu, rfl⟩
theorem op_peq {neg : Bool} {ty ty' el : TypeId} {x y : Operand} (ho : o.op = .binOp (if neg then .neq else .eql) ty x y ty') (hty : P.underlying ty = some (.pointer el)) {x' y' : LX} (hx' : compX x = some x') (hy' : compX y = some y')
    {q : PV} (hq : nilbin neg (x'.ev t) (y'.ev t) = some q) (h : WR G st w) (hx : XsR G t a o.op) : OpTo P o a w (Good G st w (.p q) st) := by
  have h1 := hx x (by rw [ho]; simp [Op.operands]) x' hx'
  have h2 := hx y (by rw [ho]; simp [Op.operands]) y' hy'
  unfold nilbin at hq
  split at hq
  · rename_i b e1 e2
    cases hq
    obtain ⟨p1, u1, z1⟩ := nil_inv e1 h1
    obtain ⟨p2, u2, z2⟩ := nil_inv e2 h2
    have : p2 = none := by simpa using z2
    subst this
    refine opTo_value (u := .bool (b != neg)) (w' := w) ?_ (.same h (.p (.bool _)))
    subst z1
    cases neg <;> simp [execOp, ho, u1, u2, eqGuard_ptr, binOp, run_equal_ptr_r hty]
  · rename_i b _ e1 e2
    cases hq
    obtain ⟨p1, u1, z1⟩ := nil_inv e1 h1
    obtain ⟨p2, u2, z2⟩ := nil_inv e2 h2
    have : p1 = none := by simpa using z1
    subst this
    refine opTo_value (u := .bool (b != neg)) (w' := w) ?_ (.same h (.p (.bool _)))
    subst z2
    cases neg <;> simp [execOp, ho, u1, u2, eqGuard_ptr, binOp, run_equal_ptr_l hty]
  · cases hq
theorem op_un {op : UnOp} {ty : TypeId} {x : Operand} (ho : o.op = .unOp op ty x) {x' : LX} (hx' : compX x = some x')
    {q : PV} (hq : lun op (x'.ev t) = some q) (h : WR G st w) (hx : XsR G t a o.op) : OpTo P o a w (Good G st w (.p q) st) := by
  have h1 := hx x (by rw [ho]; simp [Op.operands]) x' hx'
  unfold lun at hq
  split at hq
  · rename_i e; cases hq; rw [e] at h1
    refine opTo_value (u := _) (w' := w) ?_ (.same h (.p (.int _ _)))
    simp [execOp, ho, h1.int_inv, Op.unary, Op.intArith]
  · rename_i e; cases hq; rw [e] at h1
    refine opTo_value (u := _) (w' := w) ?_ (.same h (.p (.int _ _)))
    simp [execOp, ho, h1.int_inv, Op.unary, Op.intBits]
  · rename_i e; cases hq; rw [e] at h1
    refine opTo_value (u := _) (w' := w) ?_ (.same h (.p (.bool _)))
    simp [execOp, ho, h1.bool_inv, Op.unary]
  · cases hq
def NilOf (k : NK) (u : Value) (b : Bool) : Prop :=
  match k with
  | .slice => ∃ m l c, u = .slice m l c ∧ b = m.isNone
  | .map => ∃ m, u = .map m ∧ b = m.isNone
  | .func => (u = .nilFunc ∧ b = true) ∨ ∃ f x y, u = .func f x y ∧ b = false
  | .iface => (u = .nilIface ∧ b = true) ∨ ∃ x y, u = .iface x y ∧ b = false
theorem VP.sl_shape {F : Nat → Nat → Option Value} {es : List (List PV)} {u : Value} (h : VP F (.sl es) u) : ∃ m l c, u = .slice m l c ∧ (es ≠ [] → m.isNone = false) := by
  cases h with
  | nils => exact ⟨_, _, _, rfl, fun h => (h rfl).elim⟩
  | sl0 a cap hm => exact ⟨_, _, _, rfl, fun h => (h rfl).elim⟩
  | sl => exact ⟨_, _, _, rfl, fun _ => rfl⟩
theorem nilq_sound {G : Gh} {neg : Bool} {k : NK} {v r : LV} {u : Value} (h : v.nilq neg k = some r) (hv : VL G v u) : ∃ b, NilOf k u b ∧ VL G r (.bool (b != neg)) := by
  unfold LV.nilq at h
  split at h <;> cases h
  · cases hv with
    | p hv => obtain ⟨m, l, c, rfl, _⟩ := VP.sl_shape hv; exact ⟨_, ⟨m, l, c, rfl, rfl⟩, .anyb _⟩
  · cases hv with
    | p hv => obtain ⟨m, l, c, rfl, hm⟩ := VP.sl_shape hv; exact ⟨_, ⟨m, l, c, rfl, rfl⟩, by rw [hm (by simp)]; simpa using VL.p (.bool neg)⟩
  · cases hv with
    | tight hv => obtain ⟨m, l, c, e, _⟩ := VP.sl_shape hv; exact ⟨_, ⟨m, l, c, e, rfl⟩, .anyb _⟩
  · cases hv with
    | tight hv => obtain ⟨m, l, c, e, hm⟩ := VP.sl_shape hv; exact ⟨_, ⟨m, l, c, e, rfl⟩, by rw [hm (by simp)]; simpa using VL.p (.bool neg)⟩
  · cases hv with
    | sl hv => exact ⟨_, ⟨_, _, _, rfl, rfl⟩, by simpa using VL.p (.bool neg)⟩
  · cases hv with
    | rs hv => exact ⟨_, ⟨_, _, _, rfl, rfl⟩, by simpa using VL.p (.bool neg)⟩
  · cases hv with
    | p hv => cases hv; exact ⟨_, ⟨_, rfl, rfl⟩, by simpa using VL.p (.bool !neg)⟩
  · cases hv with
    | mp hv => exact ⟨_, ⟨_, rfl, rfl⟩, by simpa using VL.p (.bool neg)⟩
  · cases hv with
    | p hv => cases hv; exact ⟨_, .inl ⟨rfl, rfl⟩, by simpa using VL.p (.bool !neg)⟩
  · cases hv with
    | fn => exact ⟨_, .inr ⟨_, _, _, rfl, rfl⟩, by simpa using VL.p (.bool neg)⟩
  · cases hv with
    | p hv => cases hv; exact ⟨_, .inl ⟨rfl, rfl⟩, by simpa using VL.p (.bool !neg)⟩
  · cases hv with
    | p hv => cases hv; exact ⟨_, .inr ⟨_, _, rfl, rfl⟩, by simpa using VL.p (.bool neg)⟩
  · cases hv with
    | ifc hv => exact ⟨_, .inr ⟨_, _, rfl, rfl⟩, by simpa using VL.p (.bool neg)⟩
theorem run_equal_nil_sl {ty el : TypeId} (hty : P.underlying ty = some (.slice el)) (m : Option Addr) (l c : Nat) (w : World) : (Op.equal ty (.slice m l c) (.slice none 0 0)).run P w = .ok m.isNone w := by
  show (Op.equalIn (9999 + 1) ty _ _).run P w = _
  rw [Op.equalIn]
  cases m <;> simp [run_underlying hty]
theorem run_equal_nil_map {ty k el : TypeId} (hty : P.underlying ty = some (.map k el)) (m : Option Nat) (w : World) : (Op.equal ty (.map m) (.map none)).run P w = .ok m.isNone w := by
  show (Op.equalIn (9999 + 1) ty _ _).run P w = _
  rw [Op.equalIn]
  cases m <;> simp [run_underlying hty]
theorem run_equal_nil_fn0 {ty : TypeId} {x y z} (hty : P.underlying ty = some (.func x y z)) (w : World) : (Op.equal ty .nilFunc .nilFunc).run P w = .ok true w := by
  show (Op.equalIn (9999 + 1) ty _ _).run P w = _
  rw [Op.equalIn]
  simp [run_underlying hty]
theorem run_equal_nil_fn1 {ty : TypeId} {x y z} (hty : P.underlying ty = some (.func x y z)) (f : Fn) (p q : Array Value) (w : World) : (Op.equal ty (.func f p q) .nilFunc).run P w = .ok false w := by
  show (Op.equalIn (9999 + 1) ty _ _).run P w = _
  rw [Op.equalIn]
  simp [run_underlying hty]
theorem run_equal_nil_if0 {ty : TypeId} {x} (hty : P.underlying ty = some (.interface x)) (w : World) : (Op.equal ty .nilIface .nilIface).run P w = .ok true w := by
  show (Op.equalIn (9999 + 1) ty _ _).run P w = _
  rw [Op.equalIn]
  simp [run_underlying hty]
theorem run_equal_nil_if1 {ty : TypeId} {x} (hty : P.underlying ty = some (.interface x)) (t : TypeId) (v : Value) (w : World) : (Op.equal ty (.iface t v) .nilIface).run P w = .ok false w := by
  show (Op.equalIn (9999 + 1) ty _ _).run P w = _
  rw [Op.equalIn]
  simp [run_underlying hty]
theorem op_nileq {neg : Bool} {ty ty' : TypeId} {x y : Operand} (ho : o.op = .binOp (if neg then .neq else .eql) ty x y ty') {k : NK} {c : Value} (hy : y = .const c)
    (hk : match k with
      | .slice => (∃ e, P.underlying ty = some (.slice e)) ∧ c = .slice none 0 0
      | .map => (∃ e f, P.underlying ty = some (.map e f)) ∧ c = .map none
      | .func => (∃ e f g, P.underlying ty = some (.func e f g)) ∧ c = .nilFunc
      | .iface => (∃ e, P.underlying ty = some (.interface e)) ∧ c = .nilIface)
    {x' : LX} (hx' : compX x = some x') {r : LV} (hq : (x'.ev t).nilq neg k = some r) (h : WR G st w) (hx : XsR G t a o.op) : OpTo P o a w (Good G st w r st) := by
  have h1 := hx x (by rw [ho]; simp [Op.operands]) x' hx'
  obtain ⟨b, hb, hr⟩ := nilq_sound hq h1
  subst hy
  have hcst : ∀ z : Value, a.eval (.const z) = z := fun z => rfl
  refine opTo_value (u := .bool (b != neg)) (w' := w) ?_ (.same h hr)
  cases k with
  | slice =>
    obtain ⟨m, l, cc, hu, rfl⟩ := hb
    obtain ⟨⟨e, hty⟩, rfl⟩ := hk
    cases neg <;> simp [execOp, ho, hu, hcst, eqGuard, binOp, run_equal_nil_sl hty]
  | map =>
    obtain ⟨m, hu, rfl⟩ := hb
    obtain ⟨⟨e, f, hty⟩, rfl⟩ := hk
    cases neg <;> simp [execOp, ho, hu, hcst, eqGuard, binOp, run_equal_nil_map hty]
  | func =>
    obtain ⟨⟨e, f, g, hty⟩, rfl⟩ := hk
    rcases hb with ⟨hu, rfl⟩ | ⟨p, q, s, hu, rfl⟩
    · cases neg <;> simp [execOp, ho, hu, hcst, eqGuard, binOp, run_equal_nil_fn0 hty]
    · cases neg <;> simp [execOp, ho, hu, hcst, eqGuard, binOp, run_equal_nil_fn1 hty]
  | iface =>
    obtain ⟨⟨e, hty⟩, rfl⟩ := hk
    rcases hb with ⟨hu, rfl⟩ | ⟨p, q, hu, rfl⟩
    · cases neg <;> simp [execOp, ho, hu, hcst, eqGuard, binOp, run_equal_nil_if0 hty]
    · cases neg <;> simp [execOp, ho, hu, hcst, eqGuard, binOp, run_equal_nil_if1 hty]
theorem op_nil {op : BinOp} {ty ty' : TypeId} {x y : Operand} (ho : o.op = .binOp op ty x y ty') {lop : LOp} (hc : compNil P op ty x y = some lop) {call : CallF} {v : LV} {st' : List LObj}
    (hs : opStep call t st lop = some (v, st')) (h : WR G st w) (hx : XsR G t a o.op) : OpTo P o a w (Good G st w v st') := by
  unfold compNil at hc
  split at hc
  · split at hc <;> cases hc <;> simp only [opStep] at hs <;> split at hs <;> cases hs
    · exact op_nileq (neg := false) (k := .slice) ho rfl ⟨⟨_, ‹_›⟩, rfl⟩ ‹_› ‹_› h hx
    · exact op_nileq (neg := false) (k := .map) ho rfl ⟨⟨_, _, ‹_›⟩, rfl⟩ ‹_› ‹_› h hx
    · exact op_nileq (neg := false) (k := .func) ho rfl ⟨⟨_, _, _, ‹_›⟩, rfl⟩ ‹_› ‹_› h hx
    · exact op_nileq (neg := false) (k := .iface) ho rfl ⟨⟨_, ‹_›⟩, rfl⟩ ‹_› ‹_› h hx
  · split at hc <;> cases hc <;> simp only [opStep] at hs <;> split at hs <;> cases hs
    · exact op_nileq (neg := true) (k := .slice) ho rfl ⟨⟨_, ‹_›⟩, rfl⟩ ‹_› ‹_› h hx
    · exact op_nileq (neg := true) (k := .map) ho rfl ⟨⟨_, _, ‹_›⟩, rfl⟩ ‹_› ‹_› h hx
    · exact op_nileq (neg := true) (k := .func) ho rfl ⟨⟨_, _, _, ‹_›⟩, rfl⟩ ‹_› ‹_› h hx
    · exact op_nileq (neg := true) (k := .iface) ho rfl ⟨⟨_, ‹_›⟩, rfl⟩ ‹_› ‹_› h hx
  · cases hc
end ops
end Go.LS
set_option linter.unusedVariables false
set_option linter.unusedSimpArgs false
namespace Go.LS
section ops
variable {P : Program} {G : Gh} {st st' : List LObj} {w : World} {t : List LV} {a : Act} {o : Oper} {v : LV}
theorem getD_some {vs : Array Value} {i : Nat} {u : Value} (h : vs[i]? = some u) : vs.getD i undef = u := by
  simp [Array.getD_eq_getD_getElem?, h]
theorem op_extract {x : Operand} {i : Nat} (ho : o.op = .extract x i) {y : LX} (hy : compX x = some y) {vs : List LV} (hv : y.ev t = .tup vs) (hi : vs[i]? = some v) (h : WR G st w) (hx : XsR G t a o.op) :
    OpTo P o a w (Good G st w v st) := by
  have h1 := hx x (by rw [ho]; simp [Op.operands]) y hy
  rw [hv] at h1
  obtain ⟨arr, hu, hs, hc⟩ := h1.tup_inv
  have hlt : i < arr.size := by rw [hs]; exact (List.getElem?_eq_some_iff.1 hi).1
  have := hc i v hi
  refine opTo_value (u := arr[i]) (w' := w) ?_ (.same h (by simpa [hlt] using this))
  simp [execOp, ho, hu, Instr.extract, hlt]
theorem op_fieldAddr {s : TypeId} {x : Operand} {f : Nat} (ho : o.op = .fieldAddr s x f) {fs : Array Field} (hs : P.underlying s = some (.struct fs)) {fd : Field} (hf : fs[f]? = some fd)
    {i : TypeInfo} (hi : P.info? fd.type = some i) (hi0 : i.size ≠ 0) {y : LX} (hy : compX x = some y) (h : WR G st w) (hx : XsR G t a o.op)
    (hv : (∃ q k off, y.ev t = .ptr q k off ∧ v = .ptr q k (off + fd.offset)) ∨ ∃ c off, y.ev t = .pin c off ∧ v = .pin c (off + fd.offset)) :
    OpTo P o a w (Good G st w v st) := by
  have h1 := hx x (by rw [ho]; simp [Op.operands]) y hy
  have run : ∀ b off, a.eval x = .pointer (some ⟨b, off, none⟩) → (execOp a.eval o).run P w = .ok (.value (.pointer (some ⟨b, off + fd.offset, none⟩))) w := by
    intro b off hu
    simp [execOp, ho, hu, Instr.fieldAt, run_underlying hs, hf, Instr.sureAddr, fieldPlace, sizeOf, typeInfo, hi, hi0, Addr.add_lit]
  rcases hv with ⟨q, k, off, e, rfl⟩ | ⟨c, off, e, rfl⟩
  · rw [e] at h1
    obtain ⟨blk, size, n, hl, hu⟩ := h1.ptr_inv
    exact opTo_value (run _ _ hu) (.same h (by rw [Nat.add_assoc]; exact .ptr hl))
  · rw [e] at h1
    obtain ⟨b, base, vals, hu, hF, hp⟩ := h1.pin_inv
    exact opTo_value (run _ _ hu) (.same h (by rw [Nat.add_assoc]; exact .pin vals hF hp))
theorem CellsR.part {G : Gh} {cs : List LV} {arr : Array Value} (h : CellsR G cs arr) (off n : Nat) (hn : off + n ≤ cs.length) : CellsR G ((cs.drop off).take n) (arr.extract off (off + n)) := by
  have h0 := h.1
  refine ⟨by simp; omega, fun i x hx => ?_⟩
  rw [List.getElem?_take] at hx
  split at hx
  · rename_i hi
    rw [List.getElem?_drop] at hx
    obtain ⟨y, h1, h2⟩ := h.2 _ x hx
    refine ⟨y, ?_, h2⟩
    have hlt := (Array.getElem?_eq_some_iff.1 h1).1
    rw [Array.getElem?_extract]
    rw [if_pos (by omega)]
    exact h1
  · cases hx
theorem run_isAgg {ty : TypeId} {d : TypeDesc} (h : P.underlying ty = some d) (w : World) : (isAgg ty).run P w = .ok (aggB d) w := by
  unfold isAgg aggB
  rw [Sem.run_bind, run_underlying h w]
  cases d <;> rfl
theorem tyOf_inv {ty : TypeId} {agg : Bool} {n : Nat} (h : tyOf P ty = some (agg, n)) : ∃ d i, P.underlying ty = some d ∧ P.info? ty = some i ∧ aggB d = agg ∧ i.size = n := by
  unfold tyOf at h
  split at h
  · rename_i d i h1 h2; cases h; exact ⟨d, i, h1, h2, rfl, rfl⟩
  · cases h
theorem run_part {ty : TypeId} {agg : Bool} {n off : Nat} (hty : tyOf P ty = some (agg, n)) (hn : agg = true ∨ n = 1) {cs : List LV} {arr : Array Value} (hc : CellsR G cs arr)
    (hl : off + n ≤ cs.length) (hv : ofCells agg ((cs.drop off).take n) = some v) (w : World) : ∃ u, (part ty arr off).run P w = .ok u w ∧ VL G v u := by
  obtain ⟨d, i, h1, h2, rfl, rfl⟩ := tyOf_inv hty
  have hp := hc.part off i.size hl
  have := ofCells_sound hp hv
  rcases this with ⟨ha, hu⟩ | ⟨ha, y, he, hu, _⟩
  · refine ⟨_, ?_, hu⟩
    simp [part, run_isAgg h1, ha, sizeOf, typeInfo, h2]
  · refine ⟨y, ?_, hu⟩
    have hn1 : i.size = 1 := by rcases hn with hn | hn; · rw [ha] at hn; cases hn
                                · exact hn
    rw [hn1] at he
    have : arr[off]? = some y := by
      have h0 := congrArg (fun z : Array Value => z[0]?) he
      simp only [Array.getElem?_extract] at h0
      have hlt : off < arr.size := by have := hc.1; omega
      rw [if_pos (by omega)] at h0
      simpa using h0
    simp [part, run_isAgg h1, ha, this]
theorem op_field {ty : TypeId} {x : Operand} {f : Nat} (ho : o.op = .field ty x f) {fs : Array Field} (hs : P.underlying ty = some (.struct fs)) {fd : Field} (hf : fs[f]? = some fd)
    {agg : Bool} {n : Nat} (hty : tyOf P fd.type = some (agg, n)) (hn : agg = true ∨ n = 1) {y : LX} (hy : compX x = some y) {cs : List LV} (hv : y.ev t = .agg cs) (hl : fd.offset + n ≤ cs.length)
    (hr : ofCells agg ((cs.drop fd.offset).take n) = some v) (h : WR G st w) (hx : XsR G t a o.op) : OpTo P o a w (Good G st w v st) := by
  have h1 := hx x (by rw [ho]; simp [Op.operands]) y hy
  rw [hv] at h1
  obtain ⟨arr, hu, hc⟩ := h1.agg_inv
  obtain ⟨u, hrun, hvu⟩ := run_part (P := P) hty hn hc hl hr w
  refine opTo_value (u := u) (w' := w) ?_ (.same h hvu)
  simp [execOp, ho, hu, Instr.field, run_underlying hs, hf, asAgg, hrun]
theorem asInt_inv {v : LV} {i : Int} {u : Value} (h : v.asInt = some i) (hv : VL G v u) : ∃ k, u = .int k i := by
  unfold LV.asInt at h
  split at h
  · cases h; exact ⟨_, hv.int_inv⟩
  · cases h
theorem op_indexAddr {ty e : TypeId} {x i : Operand} (ho : o.op = .indexAddr ty x i) (hty : P.underlying ty = some (.slice e)) {inf : TypeInfo} (hi : P.info? e = some inf)
    {x' i' : LX} (hx' : compX x = some x') (hi' : compX i = some i') {n : Int} (hn : (i'.ev t).asInt = some n) (h0 : 0 ≤ n) (h : WR G st w) (hx : XsR G t a o.op)
    (hv : (∃ es el, (x'.ev t).asSl = some es ∧ es[n.toNat]? = some el ∧ el.length = inf.size ∧ v = .pin el 0) ∨
      ∃ q off len es el, x'.ev t = .rs q off len ∧ n < len ∧ st[q]? = some (.row es) ∧ es[off + n.toNat]? = some el ∧ el.length = inf.size ∧ v = .ptr q (off + n.toNat) 0) :
    OpTo P o a w (Good G st w v st) := by
  have h1 := hx x (by rw [ho]; simp [Op.operands]) x' hx'
  have h2 := hx i (by rw [ho]; simp [Op.operands]) i' hi'
  obtain ⟨k, hui⟩ := asInt_inv hn h2
  have run : ∀ b off len cap, a.eval x = .slice (some ⟨b, off, none⟩) len cap → n < len →
      (execOp a.eval o).run P w = .ok (.value (.pointer (some ⟨b, off + n.toNat * inf.size, none⟩))) w := by
    intro b off len cap hu hlt
    simp [execOp, ho, hu, hui, Instr.indexAt, asIntOf, run_underlying hty, h0, hlt, sizeOf, typeInfo, hi, Addr.add_lit]
  rcases hv with ⟨es, el, e1, e2, e3, rfl⟩ | ⟨q, off, len, es, el, e1, hlt, e2, e3, e4, rfl⟩
  · have hs := (asSl_sound e1 h1).slice
    have hlt := (List.getElem?_eq_some_iff.1 e2).1
    rcases hs with ⟨rfl, _⟩ | ⟨size, b, off, cap, hu, _, _, hsz, vals, hF, hp⟩ | ⟨rfl, _⟩
    · simp at e2
    · have hse : size = inf.size := (hsz el (List.mem_of_getElem? e2)).symm.trans e3
      subst hse
      refine opTo_value (run _ _ _ _ hu (by omega)) (.same h ?_)
      have := VL.pin (G := G) (cells := el) (off := 0) (b := b) (base := off + n.toNat * inf.size) (vals n.toNat) (fun j p hj => hF n.toNat j p (by simp [at2, e2, hj])) (fun j p hj => hp n.toNat j p (by simp [at2, e2, hj]))
      simpa using this
    · simp at e2
  · rw [e1] at h1
    obtain ⟨blk, size, m, cap, hl, hu, _, _, _⟩ := h1.rs_inv
    obtain ⟨blk', size', m', e5, arr, ty', hb, _, _, hr⟩ := h.row q es e2 _ hl
    cases e5
    have hse : size = inf.size := (hr.1 el (List.mem_of_getElem? e3)).symm.trans e4
    subst hse
    refine opTo_value (run _ _ _ _ hu (by omega)) (.same h ?_)
    have := VL.ptr (G := G) (o := q) (i := off + n.toNat) (off := 0) hl
    rw [Nat.add_zero, Nat.add_mul] at this
    exact this
theorem op_arrAddr {ty e : TypeId} {m : Nat} {x i : Operand} (ho : o.op = .indexAddr ty x i) (hty : P.underlying ty = some (.array m e)) {inf : TypeInfo} (hi : P.info? e = some inf)
    {x' i' : LX} (hx' : compX x = some x') (hi' : compX i = some i') {n : Int} (hn : (i'.ev t).asInt = some n) (h0 : 0 ≤ n ∧ n < m) (h : WR G st w) (hx : XsR G t a o.op)
    (hv : (∃ q k off, x'.ev t = .ptr q k off ∧ v = .ptr q k (off + n.toNat * inf.size)) ∨ ∃ c off, x'.ev t = .pin c off ∧ v = .pin c (off + n.toNat * inf.size)) :
    OpTo P o a w (Good G st w v st) := by
  have h1 := hx x (by rw [ho]; simp [Op.operands]) x' hx'
  have h2 := hx i (by rw [ho]; simp [Op.operands]) i' hi'
  obtain ⟨k, hui⟩ := asInt_inv hn h2
  have run : ∀ b off, a.eval x = .pointer (some ⟨b, off, none⟩) →
      (execOp a.eval o).run P w = .ok (.value (.pointer (some ⟨b, off + n.toNat * inf.size, none⟩))) w := by
    intro b off hu
    simp [execOp, ho, hu, hui, Instr.indexAt, asIntOf, run_underlying hty, h0, sizeOf, typeInfo, hi, Addr.add_lit, Instr.sureAddr]
  rcases hv with ⟨q, k, off, e, rfl⟩ | ⟨c, off, e, rfl⟩
  · rw [e] at h1
    obtain ⟨blk, size, n, hl, hu⟩ := h1.ptr_inv
    exact opTo_value (run _ _ hu) (.same h (by rw [Nat.add_assoc]; exact .ptr hl))
  · rw [e] at h1
    obtain ⟨b, base, vals, hu, hF, hp⟩ := h1.pin_inv
    exact opTo_value (run _ _ hu) (.same h (by rw [Nat.add_assoc]; exact .pin vals hF hp))
theorem op_index {ty : TypeId} {x i : Operand} (ho : o.op = .index ty x i) (hty : P.underlying ty = some .string)
    {x' i' : LX} (hx' : compX x = some x') (hi' : compX i = some i') {n : Int} (hn : (i'.ev t).asInt = some n) (h0 : 0 ≤ n) {s : List UInt8} (hs : x'.ev t = .p (.str s)) {b : UInt8} (hb : s[n.toNat]? = some b)
    (h : WR G st w) (hx : XsR G t a o.op) : OpTo P o a w (Good G st w (.p (.int .u8 b.toNat)) st) := by
  have h1 := hx x (by rw [ho]; simp [Op.operands]) x' hx'
  have h2 := hx i (by rw [ho]; simp [Op.operands]) i' hi'
  obtain ⟨k, hui⟩ := asInt_inv hn h2
  rw [hs] at h1
  have hu := h1.str_inv
  have hg : (⟨s.toArray⟩ : ByteArray)[n.toNat]? = some b := by
    have hlt := (List.getElem?_eq_some_iff.1 hb)
    obtain ⟨hlt, he⟩ := hlt
    rw [getElem?_pos (⟨s.toArray⟩ : ByteArray) n.toNat (by simpa using hlt)]
    show some (s.toArray[n.toNat]) = some b
    simp [he]
  refine opTo_value (u := .int .u8 b.toNat) (w' := w) ?_ (.same h (.p (.int _ _)))
  simp [execOp, ho, hu, hui, Instr.index, asIntOf, run_underlying hty, h0, hg]
theorem op_arrIndex {ty e : TypeId} {m : Nat} {x i : Operand} (ho : o.op = .index ty x i) (hty : P.underlying ty = some (.array m e))
    {agg : Bool} {sz : Nat} (hte : tyOf P e = some (agg, sz)) (hn1 : agg = true ∨ sz = 1)
    {x' i' : LX} (hx' : compX x = some x') (hi' : compX i = some i') {n : Int} (hn : (i'.ev t).asInt = some n) (h0 : 0 ≤ n ∧ n < m) {cs : List LV} (hs : x'.ev t = .agg cs) (hl : n.toNat * sz + sz ≤ cs.length)
    (hr : ofCells agg ((cs.drop (n.toNat * sz)).take sz) = some v) (h : WR G st w) (hx : XsR G t a o.op) : OpTo P o a w (Good G st w v st) := by
  have h1 := hx x (by rw [ho]; simp [Op.operands]) x' hx'
  have h2 := hx i (by rw [ho]; simp [Op.operands]) i' hi'
  obtain ⟨k, hui⟩ := asInt_inv hn h2
  rw [hs] at h1
  obtain ⟨arr, hu, hc⟩ := h1.agg_inv
  obtain ⟨u, hrun, hvu⟩ := run_part (P := P) hte hn1 hc hl hr w
  obtain ⟨d, inf, e1, e2, _, rfl⟩ := tyOf_inv hte
  refine opTo_value (u := u) (w' := w) ?_ (.same h hvu)
  simp [execOp, ho, hu, hui, Instr.index, asIntOf, run_underlying hty, h0, sizeOf, typeInfo, e2, hrun]
theorem op_len {x : Operand} {ty : TypeId} {y : LX} (ho : o.op = .call { callee := .builtin .len, args := #[x], argTypes := #[ty] })
    (hy : compX x = some y) (h : WR G st w) (hx : XsR G t a o.op) {n : Nat}
    (hv : (P.underlying ty = some .string ∧ ∃ s, y.ev t = .p (.str s) ∧ n = s.length) ∨
      ((∃ e, P.underlying ty = some (.slice e)) ∧ ((∃ es, (y.ev t).asSl = some es ∧ n = es.length) ∨ ∃ q off, y.ev t = .rs q off n)) ∨
      ((∃ k e, P.underlying ty = some (.map k e)) ∧ ((y.ev t = .p .nilm ∧ n = 0) ∨ ∃ q kv, y.ev t = .mp q ∧ st[q]? = some (.map kv) ∧ n = kv.length))) :
    OpTo P o a w (Good G st w (.p (.int .i64 n)) st) := by
  have h1 := hx x (by rw [ho]; simp [Op.operands, Call.operands]) y hy
  have key : ∀ u, a.eval x = u → (Builtin.len_ #[ty] o.type #[u]).run P w = .ok (.int .i64 n) w → OpTo P o a w (Good G st w (.p (.int .i64 n)) st) := by
    intro u hu hr
    refine opTo_value (u := .int .i64 n) (w' := w) ?_ (.same h (.p (.int _ _)))
    simp [execOp, ho, resolve, invoke, builtin, hu, hr]
  rcases hv with ⟨ht, s, e, rfl⟩ | ⟨⟨e, ht⟩, ⟨es, e1, rfl⟩ | ⟨q, off, e1⟩⟩ | ⟨⟨k, e, ht⟩, ⟨e1, rfl⟩ | ⟨q, kv, e1, e2, rfl⟩⟩
  · rw [e] at h1
    exact key _ h1.str_inv (by simp [Builtin.len_, run_underlying ht, goInt])
  · rcases (asSl_sound e1 h1).slice with ⟨rfl, hu⟩ | ⟨size, b, off, cap, hu, _⟩ | ⟨rfl, ad, cap, hu, _⟩
    · exact key _ hu (by simp [Builtin.len_, run_underlying ht, goInt])
    · exact key _ hu (by simp [Builtin.len_, run_underlying ht, goInt])
    · exact key _ hu (by simp [Builtin.len_, run_underlying ht, goInt])
  · rw [e1] at h1
    obtain ⟨blk, size, m, cap, _, hu, _⟩ := h1.rs_inv
    exact key _ hu (by simp [Builtin.len_, run_underlying ht, goInt])
  · rw [e1] at h1
    exact key _ h1.nilm_inv (by simp [Builtin.len_, run_underlying ht, goInt])
  · rw [e1] at h1
    obtain ⟨blk, hl, hu⟩ := h1.mp_inv
    obtain ⟨blk', e3, es, c, hb, hm, _⟩ := h.map q kv e2 _ hl
    cases e3
    exact key _ hu (by simp [Builtin.len_, run_underlying ht, goInt, getObj, Sem.run, hb, hm.1])
theorem op_constLen {x : Operand} {ty e : TypeId} {n : Nat} (ho : o.op = .call { callee := .builtin .len, args := #[x], argTypes := #[ty] }) (ht : P.underlying ty = some (.array n e)) (h : WR G st w) :
    OpTo P o a w (Good G st w (.p (.int .i64 n)) st) := by
  refine opTo_value (u := .int .i64 n) (w' := w) ?_ (.same h (.p (.int _ _)))
  simp [execOp, ho, resolve, invoke, builtin, Builtin.len_, run_underlying ht, goInt]
theorem op_cap {x : Operand} {ty e : TypeId} {y : LX} (ho : o.op = .call { callee := .builtin .cap, args := #[x], argTypes := #[ty] }) (ht : P.underlying ty = some (.slice e))
    (hy : compX x = some y) {es : List (List PV)} (hv : y.ev t = .tight es) (h : WR G st w) (hx : XsR G t a o.op) : OpTo P o a w (Good G st w (.p (.int .i64 es.length)) st) := by
  have h1 := hx x (by rw [ho]; simp [Op.operands, Call.operands]) y hy
  rw [hv] at h1
  refine opTo_value (u := .int .i64 es.length) (w' := w) ?_ (.same h (.p (.int _ _)))
  generalize hu : a.eval x = u at h1
  cases h1 with
  | tight h1 => simp [execOp, ho, resolve, invoke, builtin, hu, Builtin.cap_, run_underlying ht, goInt]
theorem op_mx {x y : Operand} {ts : Array TypeId} (ho : o.op = .call { callee := .builtin .max, args := #[x, y], argTypes := ts }) {x' y' : LX} (hx' : compX x = some x') (hy' : compX y = some y')
    {k j : IntKind} {m n : Int} (e1 : x'.ev t = .p (.int k m)) (e2 : y'.ev t = .p (.int j n)) (h : WR G st w) (hx : XsR G t a o.op) : OpTo P o a w (Good G st w (.p (.int k (if n > m then n else m))) st) := by
  have h1 := hx x (by rw [ho]; simp [Op.operands, Call.operands]) x' hx'
  have h2 := hx y (by rw [ho]; simp [Op.operands, Call.operands]) y' hy'
  rw [e1] at h1; rw [e2] at h2
  refine opTo_value (u := .int k (if n > m then n else m)) (w' := w) ?_ (.same h (.p (.int _ _)))
  simp [execOp, ho, resolve, invoke, builtin, h1.int_inv, h2.int_inv, Builtin.max_, Builtin.max2]
theorem op_mn {x y : Operand} {ts : Array TypeId} (ho : o.op = .call { callee := .builtin .min, args := #[x, y], argTypes := ts }) {x' y' : LX} (hx' : compX x = some x') (hy' : compX y = some y')
    {k j : IntKind} {m n : Int} (e1 : x'.ev t = .p (.int k m)) (e2 : y'.ev t = .p (.int j n)) (h : WR G st w) (hx : XsR G t a o.op) : OpTo P o a w (Good G st w (.p (.int k (if n < m then n else m))) st) := by
  have h1 := hx x (by rw [ho]; simp [Op.operands, Call.operands]) x' hx'
  have h2 := hx y (by rw [ho]; simp [Op.operands, Call.operands]) y' hy'
  rw [e1] at h1; rw [e2] at h2
  refine opTo_value (u := .int k (if n < m then n else m)) (w' := w) ?_ (.same h (.p (.int _ _)))
  simp [execOp, ho, resolve, invoke, builtin, h1.int_inv, h2.int_inv, Builtin.min_, Builtin.min2]
end ops
end Go.LS
set_option linter.unusedVariables false
set_option linter.unusedSimpArgs false
namespace Go.LS
section ops
variable {P : Program} {G : Gh} {st st' : List LObj} {w : World} {t : List LV} {a : Act} {o : Oper} {v : LV}
theorem ldAt_sound (h : WR G st w) {x : LV} {n : Nat} {cs : List LV} (hl : x.ldAt st n = some cs) {u : Value} (hu : VL G x u) :
    ∃ b off arr, u = .pointer (some ⟨b, off, none⟩) ∧ CellsR G cs arr ∧ cs.length = n ∧ ∀ (j : Nat) y, arr[j]? = some y → w.cell? ⟨b, off + j, none⟩ = some y := by
  unfold LV.ldAt at hl
  split at hl
  · rename_i q i off
    split at hl
    · rename_i es hs
      split at hl
      · rename_i el he
        split at hl
        · rename_i hlen
          cases hl
          obtain ⟨blk, size, m, hloc, rfl⟩ := hu.ptr_inv
          obtain ⟨blk', size', m', e5, arr, ty, hb, hz, hm, hr⟩ := h.row q es hs _ hloc
          cases e5
          have hsz := hr.1 el (List.mem_of_getElem? he)
          refine ⟨blk, i * size + off, arr.extract (i * size + off) (i * size + off + n), rfl, ?_, by simp; omega, ?_⟩
          · have hilt := (List.getElem?_eq_some_iff.1 he).1
            have hbig : i * size + off + n ≤ arr.size := by
              have : (i + 1) * size ≤ m * size := Nat.mul_le_mul_right _ (by omega)
              rw [Nat.add_mul] at this
              omega
            refine ⟨by simp; omega, fun j x hx => ?_⟩
            rw [List.getElem?_take] at hx
            split at hx
            · rename_i hj
              rw [List.getElem?_drop] at hx
              obtain ⟨y, h1, h2⟩ := hr.2 i (off + j) x (by simp [at2, he, hx])
              refine ⟨y, ?_, h2⟩
              rw [Array.getElem?_extract, if_pos (by omega)]
              rw [← h1]
              congr 1
              omega
            · cases hx
          · intro j y hy
            rw [Array.getElem?_extract] at hy
            split at hy
            · rw [cell_of_row w blk _ arr ty (0, 0) hb]; exact hy
            · cases hy
        · cases hl
      · cases hl
    · cases hl
  · rename_i cells off
    split at hl
    · rename_i hlen
      cases hl
      obtain ⟨b, base, vals, rfl, hF, hp⟩ := hu.pin_inv
      refine ⟨b, base + off, ((List.range n).map fun j => vals (off + j)).toArray, rfl, ?_, by simp; omega, ?_⟩
      · refine ⟨by simp; omega, fun j x hx => ?_⟩
        rw [List.getElem?_map] at hx
        cases hy : ((cells.drop off).take n)[j]? with
        | none => simp [hy] at hx
        | some y =>
          simp [hy] at hx; subst hx
          rw [List.getElem?_take] at hy
          split at hy
          · rename_i hj
            rw [List.getElem?_drop] at hy
            exact ⟨vals (off + j), by simp [hj], .p (hp _ _ hy), (hp _ _ hy).one⟩
          · cases hy
      · intro j y hy
        rw [List.getElem?_toArray, List.getElem?_map] at hy
        cases hq : (List.range n)[j]? with
        | none => simp [hq] at hy
        | some q =>
        obtain ⟨hj, rfl⟩ : j < n ∧ j = q := by
          have h1 := (List.getElem?_eq_some_iff.1 hq)
          obtain ⟨h1, h2⟩ := h1
          simp at h1 h2
          exact ⟨h1, h2⟩
        simp [hq] at hy; subst hy
        have : cells[off + j]? = some cells[off + j] := by simp
        have := h.fr _ _ _ (hF (off + j) _ this)
        rw [← this]
        congr 2
        omega
    · cases hl
  · cases hl
theorem run_load (h : WR G st w) {ty : TypeId} {agg : Bool} {n : Nat} (hty : tyOf P ty = some (agg, n)) (hn : agg = true ∨ n = 1) {x : LV} {cs : List LV} (hl : x.ldAt st n = some cs)
    (hv : ofCells agg cs = some v) {u : Value} (hu : VL G x u) : ∃ ad z, u = .pointer (some ad) ∧ (loadVar ty ad).run P w = .ok z w ∧ VL G v z := by
  obtain ⟨b, off, arr, rfl, hc, hlen, hcell⟩ := ldAt_sound h hl hu
  obtain ⟨d, i, h1, h2, rfl, rfl⟩ := tyOf_inv hty
  refine ⟨⟨b, off, none⟩, ?_⟩
  rcases ofCells_sound hc hv with ⟨ha, hz⟩ | ⟨ha, y, he, hz, _⟩
  · refine ⟨.agg arr, rfl, ?_, hz⟩
    have hlc := run_loadCells_list (P := P) w ⟨b, off, none⟩ arr.toList (fun j y hy => by rw [Addr.add_lit]; exact hcell j y (by simpa using hy))
    have : arr.toList.length = i.size := by have := hc.1; simp; omega
    rw [this] at hlc
    simp [loadVar, run_isAgg h1, ha, sizeOf, typeInfo, h2, hlc]
  · refine ⟨y, rfl, ?_, hz⟩
    have := hcell 0 y (by simp [he])
    simp at this
    simp [loadVar, run_isAgg h1, ha, this]
theorem op_load {ty : TypeId} {x : Operand} (ho : o.op = .load ty x) {agg : Bool} {n : Nat} (hty : tyOf P ty = some (agg, n)) (hn : agg = true ∨ n = 1) {y : LX} (hy : compX x = some y)
    {cs : List LV} (hl : (y.ev t).ldAt st n = some cs) (hv : ofCells agg cs = some v) (h : WR G st w) (hx : XsR G t a o.op) : OpTo P o a w (Good G st w v st) := by
  have h1 := hx x (by rw [ho]; simp [Op.operands]) y hy
  obtain ⟨ad, z, hu, hr, hz⟩ := run_load (P := P) h hty hn hl hv h1
  refine opTo_value (u := z) (w' := w) ?_ (.same h hz)
  simp [execOp, ho, hu, Instr.loadAt, Instr.sureAddr, hr]
theorem take_drop_get {α : Type} (l cs : List α) (off j : Nat) (h : off + cs.length ≤ l.length) :
    (l.take off ++ cs ++ l.drop (off + cs.length))[j]? = if off ≤ j ∧ j < off + cs.length then cs[j - off]? else l[j]? := by
  rw [List.append_assoc]
  by_cases h1 : j < off
  · rw [if_neg (by omega), List.getElem?_append_left (by simp; omega), List.getElem?_take, if_pos h1]
  · rw [List.getElem?_append_right (by simp; omega)]
    have hl : (l.take off).length = off := by simp; omega
    rw [hl]
    by_cases h2 : j < off + cs.length
    · rw [if_pos ⟨by omega, h2⟩, List.getElem?_append_left (by omega)]
    · rw [if_neg (by omega), List.getElem?_append_right (by omega), List.getElem?_drop]
      congr 1; omega
theorem op_store {ty : TypeId} {x y : Operand} (ho : o.op = .store ty x y) {agg : Bool} {n : Nat} (hty : tyOf P ty = some (agg, n)) {x' y' : LX} (hx' : compX x = some x') (hy' : compX y = some y')
    {cs : List LV} (hc : (y'.ev t).cells? = some cs) (hn : cs.length = n) (hs : (x'.ev t).stAt st cs = some st') (h : WR G st w) (hx : XsR G t a o.op) :
    OpTo P o a w (Good G st w (.tup []) st') := by
  have h1 := hx x (by rw [ho]; simp [Op.operands]) x' hx'
  have h2 := cells_sound hc (hx y (by rw [ho]; simp [Op.operands]) y' hy')
  obtain ⟨d, inf, e1, e2, _, rfl⟩ := tyOf_inv hty
  unfold LV.stAt at hs
  split at hs
  · rename_i q i off heq
    split at hs
    · rename_i es hes
      split at hs
      · rename_i el he
        split at hs
        · rename_i hlen
          cases hs
          rw [heq] at h1
          obtain ⟨blk, size, m, hloc, hu⟩ := h1.ptr_inv
          obtain ⟨blk', size', m', e5, arr, ty', hb, hz, hm, hr⟩ := h.row q es hes _ hloc
          cases e5
          have hsz := hr.1 el (List.mem_of_getElem? he)
          have hilt := (List.getElem?_eq_some_iff.1 he).1
          have hbig : i * size + off + cs.length ≤ arr.size := by
            have : (i + 1) * size ≤ m * size := Nat.mul_le_mul_right _ (by omega)
            rw [Nat.add_mul] at this
            omega
          generalize hnew : (a.eval y).cells = new at h2
          have hnl : new.toList.length = cs.length := by have := h2.1; simpa using this
          have h1c : ∀ z ∈ new.toList, z.oneCell' = true := by
            intro z hz'
            obtain ⟨j, hj⟩ := List.getElem?_of_mem hz'
            have hjl : j < cs.length := by have := (List.getElem?_eq_some_iff.1 hj).1; omega
            obtain ⟨y, a1, _, a3⟩ := h2.2 j cs[j] (by simp [hjl])
            simp at hj a1
            rw [a1] at hj; cases hj; exact a3
          have hrun := run_storeCells_at P blk (i * size + off) ty' new.toList 0 arr w hb (by rw [hnl]; exact hbig) h1c
          simp only [Nat.add_zero] at hrun
          generalize hcur : (arr.toList.take (i * size + off) ++ new.toList ++ arr.toList.drop (i * size + off + new.toList.length)) = cur at hrun
          have hget : ∀ j, cur[j]? = if i * size + off ≤ j ∧ j < i * size + off + new.toList.length then new.toList[j - (i * size + off)]? else arr.toList[j]? := fun j => by
            rw [← hcur]; exact take_drop_get arr.toList new.toList (i * size + off) j (by rw [hnl]; simpa using hbig)
          have hcl : cur.length = arr.size := by rw [← hcur]; simp only [List.length_append, List.length_take, List.length_drop, hnl, Array.length_toList]; omega
          have hrow : rowOk G cur.toArray (es.set i (el.take off ++ cs ++ el.drop (off + cs.length))) size := by
            refine ⟨fun e hem => ?_, fun i' j' c hc' => ?_⟩
            · rcases List.mem_or_eq_of_mem_set hem with hem | rfl
              · exact hr.1 e hem
              · simp only [List.length_append, List.length_take, List.length_drop]; omega
            · by_cases hii : i' = i
              · subst hii
                simp only [at2, List.getElem?_set_self hilt, Option.bind_some] at hc'
                rw [take_drop_get el cs off j' (by omega)] at hc'
                split at hc'
                · rename_i hj
                  obtain ⟨y, a1, a2, a3⟩ := h2.2 _ c hc'
                  refine ⟨y, ?_, a2, a3⟩
                  simp only [List.getElem?_toArray]
                  rw [hget, if_pos (by rw [hnl]; omega)]
                  simp only [Array.getElem?_toList]
                  rw [← a1]; congr 1; omega
                · rename_i hj
                  obtain ⟨y, a1, a2, a3⟩ := hr.2 i' j' c (by simp [at2, he, hc'])
                  refine ⟨y, ?_, a2, a3⟩
                  simp only [List.getElem?_toArray]
                  rw [hget, if_neg (by rw [hnl]; omega)]
                  simpa using a1
              · have hc'' : at2 es i' j' = some c := by simpa only [at2, List.getElem?_set_ne (Ne.symm hii)] using hc'
                obtain ⟨y, a1, a2, a3⟩ := hr.2 i' j' c hc''
                refine ⟨y, ?_, a2, a3⟩
                have hj' : j' < size := by
                  simp only [at2] at hc''
                  cases hq : es[i']? with
                  | none => simp [hq] at hc''
                  | some e' =>
                    simp [hq] at hc''
                    have := hr.1 e' (List.mem_of_getElem? hq)
                    have := (List.getElem?_eq_some_iff.1 hc'').1
                    omega
                simp only [List.getElem?_toArray]
                rw [hget, if_neg ?_]
                · simpa using a1
                · rw [hnl]
                  rintro ⟨b1, b2⟩
                  rcases Nat.lt_or_gt_of_ne hii with hlt | hgt
                  · have : (i' + 1) * size ≤ i * size := Nat.mul_le_mul_right _ hlt
                    rw [Nat.add_mul] at this; omega
                  · have : (i + 1) * size ≤ i' * size := Nat.mul_le_mul_right _ hgt
                    rw [Nat.add_mul] at this; omega
          have hsb : SameBut blk w (w.setRow blk cur.toArray) := ⟨by simp [World.setRow], fun c hc => setRow_other w blk c _ hc, rfl, rfl, rfl⟩
          obtain ⟨r1, r2⟩ := h.setObj hes hloc (x' := .row (es.set i (el.take off ++ cs ++ el.drop (off + cs.length)))) (ob := .cells cur.toArray ty' (0, 0))
            (.inl ⟨es, _, size, m, cur.toArray, ty', rfl, rfl, rfl, rfl, by simp [hcl, hz], by simpa using hm, hrow⟩) hsb (setRow_heap w blk arr _ ty' _ hb)
          refine opTo_skip ?_ ⟨G, r1, .unit G, r2⟩
          have hsize : new.size = inf.size := by have := hnl; simp at this; omega
          simp [execOp, ho, hu, Instr.storeAt, Instr.sureAddr, storeVar, hnew, sizeOf, typeInfo, e2, hsize, hrun]
        · cases hs
      · cases hs
    · cases hs
  · cases hs
theorem compXs_len : ∀ {l : List Operand} {ys : List LX}, compXs l = some ys → ys.length = l.length
  | [], ys, h => by cases h; rfl
  | x :: r, ys, h => by
    simp only [compXs] at h
    split at h
    · rename_i y l h1 h2; cases h; simp [compXs_len h2]
    · cases h
theorem compXs_get : ∀ {l : List Operand} {ys : List LX}, compXs l = some ys → ∀ (i : Nat) y, ys[i]? = some y → ∃ x, l[i]? = some x ∧ compX x = some y
  | [], ys, h, i, y, hy => by cases h; simp at hy
  | x :: r, ys, h, i, y, hy => by
    simp only [compXs] at h
    split at h
    · rename_i y' l h1 h2
      cases h
      cases i with
      | zero => simp at hy; subst hy; exact ⟨x, rfl, h1⟩
      | succ i => simp at hy; exact compXs_get h2 i y hy
    · cases h
def ArgsR (G : Gh) (vs : List LV) (us : Array Value) : Prop := us.size = vs.length ∧ ∀ (i : Nat) x, vs[i]? = some x → VL G x (us.getD i undef)
theorem argsR_of {l : List Operand} (hx : ∀ x ∈ l, ∀ y, compX x = some y → VL G (y.ev t) (a.eval x)) {ys : List LX} (hy : compXs l = some ys) :
    ArgsR G (ys.map (LX.ev t)) (l.map a.eval).toArray := by
  refine ⟨by simp [compXs_len hy], fun i v hv => ?_⟩
  rw [List.getElem?_map] at hv
  cases hq : ys[i]? with
  | none => simp [hq] at hv
  | some y =>
    simp [hq] at hv; subst hv
    obtain ⟨x, h1, h2⟩ := compXs_get hy i y hq
    have := hx x (List.mem_of_getElem? h1) y h2
    simpa [Array.getD_eq_getD_getElem?, h1] using this
theorem op_fn {f : FuncId} {first captured : Array Operand} (ho : o.op = .makeFunc (.func f) first captured) (h0 : first.size = 0) {cs : List LX} (hc : compXs captured.toList = some cs)
    (h : WR G st w) (hx : XsR G t a o.op) : OpTo P o a w (Good G st w (.fn (.func f) [] (cs.map (LX.ev t))) st) := by
  obtain rfl : first = #[] := by simpa using h0
  have hA := argsR_of (G := G) (t := t) (a := a) (l := captured.toList) (fun x hm y hy => hx x (by rw [ho]; simpa [Op.operands] using hm) y hy) hc
  refine opTo_value (u := .func (.func f) #[] (captured.map a.eval)) (w' := w) ?_ (.same h ?_)
  · simp [execOp, ho, Instr.makeFunc]
  · refine .fn _ _ _ rfl (by have := hA.1; simpa using this) (by simp) ?_
    intro i x hi
    have := hA.2 i x hi
    simpa using this
theorem op_iface {ty : TypeId} {x : Operand} (ho : o.op = .makeInterface ty x) {d : TypeDesc} (hd : P.underlying ty = some d) (hni : ∀ ms, d ≠ .interface ms) {y : LX} (hy : compX x = some y)
    (h : WR G st w) (hx : XsR G t a o.op) : OpTo P o a w (Good G st w (.ifc ty (y.ev t)) st) := by
  have h1 := hx x (by rw [ho]; simp [Op.operands]) y hy
  refine opTo_value (u := .iface ty (a.eval x)) (w' := w) ?_ (.same h (.ifc ty h1))
  cases d <;> first | exact absurd rfl (hni _) | simp [execOp, ho, Instr.makeInterface, run_underlying hd]
theorem op_mkmap {ty : TypeId} (ho : o.op = .makeMap ty none) (h : WR G st w) : OpTo P o a w (Good G st w (.mp st.length) (st ++ [.map []])) := by
  obtain ⟨r1, r2⟩ := h.newObj (.map []) (.map w.heap.size) (.map #[] 0) (.inr (.inl ⟨[], #[], 0, rfl, rfl, rfl, ⟨rfl, by simp⟩, .nil _⟩))
  refine opTo_value (u := .map (some w.heap.size)) (w' := w.alloc (.map #[] 0)) ?_ ⟨_, r1, .mp (by simp [Gh.addLoc]), r2⟩
  simp [execOp, ho, Instr.makeMap]
theorem op_range {ty : TypeId} {x : Operand} (ho : o.op = .range ty x) (hty : P.underlying ty = some .string) {y : LX} (hy : compX x = some y) {s : List UInt8} (hv : y.ev t = .p (.str s))
    (h : WR G st w) (hx : XsR G t a o.op) : OpTo P o a w (Good G st w (.it st.length) (st ++ [.siter s 0])) := by
  have h1 := hx x (by rw [ho]; simp [Op.operands]) y hy
  rw [hv] at h1
  obtain ⟨r1, r2⟩ := h.newObj (.siter s 0) (.iter w.heap.size) (.stringIter ⟨s.toArray⟩ 0) (.inr (.inr ⟨s, 0, rfl, rfl, rfl⟩))
  refine opTo_value (u := .pointer (some ⟨w.heap.size, 0, none⟩)) (w' := w.alloc (.stringIter ⟨s.toArray⟩ 0)) ?_ ⟨_, r1, .it (by simp [Gh.addLoc]), r2⟩
  simp [execOp, ho, Instr.range, run_underlying hty, h1.str_inv]
theorem sameBut_set (w : World) (b : Nat) (ob : Obj) : SameBut b w { w with heap := w.heap.setIfInBounds b ob } :=
  ⟨by simp, fun c hc => by simp only; rw [Array.getElem?_setIfInBounds_ne (Ne.symm hc)], rfl, rfl, rfl⟩
theorem op_next {x : Operand} {y : LX} (ho : o.op = .next x true) (hy : compX x = some y) {q : Nat} (hv : y.ev t = .it q) {s : List UInt8} {pos : Nat} (hs : st[q]? = some (.siter s pos))
    (h : WR G st w) (hx : XsR G t a o.op) :
    OpTo P o a w (if pos < s.length then Good G st w (.tup [.p (.bool true), .p (.int .i64 pos), .p (.int .i32 (Utf8.decode ⟨s.toArray⟩ pos).1)]) (st.set q (.siter s (pos + (Utf8.decode ⟨s.toArray⟩ pos).2)))
      else Good G st w (.tup [.p (.bool false)]) st) := by
  have h1 := hx x (by rw [ho]; simp [Op.operands]) y hy
  rw [hv] at h1
  obtain ⟨blk, hl, hu⟩ := h1.it_inv
  obtain ⟨blk', e, hb⟩ := h.iter q s pos hs _ hl
  cases e
  by_cases hp : pos < s.length
  · rw [if_pos hp]
    have hlt := lt_of_heap hb
    obtain ⟨r1, r2⟩ := h.setObj hs hl (x' := .siter s (pos + (Utf8.decode ⟨s.toArray⟩ pos).2)) (ob := .stringIter ⟨s.toArray⟩ (pos + (Utf8.decode ⟨s.toArray⟩ pos).2))
      (.inr (.inr ⟨s, pos, s, _, rfl, rfl, rfl, rfl⟩)) (sameBut_set w blk (.stringIter ⟨s.toArray⟩ (pos + (Utf8.decode ⟨s.toArray⟩ pos).2))) (by simp [hlt])
    refine opTo_value (u := .tuple #[.bool true, .int .i64 pos, .int .i32 (Utf8.decode ⟨s.toArray⟩ pos).1]) ?_ ⟨G, r1, ?_, r2⟩
    · simp [execOp, ho, Instr.next, hu, getObj, setObj, Sem.run, hb, hp, goInt]
    · refine .tup _ rfl ?_
      intro i z hz
      match i, hz with
      | 0, hz => simp at hz; subst hz; exact .p (.bool _)
      | 1, hz => simp at hz; subst hz; exact .p (.int _ _)
      | 2, hz => simp at hz; subst hz; exact .p (.int _ _)
  · rw [if_neg hp]
    refine opTo_value (u := .tuple #[.bool false]) (w' := w) ?_ (.same h ?_)
    · simp [execOp, ho, Instr.next, hu, getObj, Sem.run, hb, hp]
    · refine .tup _ rfl ?_
      intro i z hz
      match i, hz with
      | 0, hz => simp at hz; subst hz; exact .p (.bool _)
end ops
end Go.LS
set_option linter.unusedVariables false
set_option linter.unusedSimpArgs false
namespace Go.LS
section ops
variable {P : Program} {G : Gh} {st st' : List LObj} {w : World} {t : List LV} {a : Act} {o : Oper} {v : LV}
theorem VP.mk {F : Nat → Nat → Option Value} {es : List (List PV)} {size b off cap : Nat} (h1 : es.length ≤ cap) (h2 : cap ≤ maxLen) (h3 : ∀ e ∈ es, e.length = size)
    (h : ∀ i j p, at2 es i j = some p → ∃ y, F b (off + i * size + j) = some y ∧ VP F p y) : VP F (.sl es) (.slice (some ⟨b, off, none⟩) es.length cap) := by
  refine .sl es size b off cap (fun i j => (F b (off + i * size + j)).getD undef) h1 h2 h3 ?_ ?_
  · intro i j p hp
    obtain ⟨y, hy, _⟩ := h i j p hp
    simp [hy]
  · intro i j p hp
    obtain ⟨y, hy, hv⟩ := h i j p hp
    simpa [hy] using hv
theorem VP.get {F : Nat → Nat → Option Value} {es : List (List PV)} {size b off n cap : Nat} (h : VP F (.sl es) (.slice (some ⟨b, off, none⟩) n cap)) (hs : ∀ e ∈ es, e.length = size) :
    n = es.length ∧ es.length ≤ cap ∧ cap ≤ maxLen ∧ ∀ i j p, at2 es i j = some p → ∃ y, F b (off + i * size + j) = some y ∧ VP F p y := by
  rcases h.slice with ⟨_, hu⟩ | ⟨size', b', off', cap', hu, h1, h2, h3, vals, h4, h5⟩ | ⟨rfl, ad, cap', hu, hm⟩
  · cases hu
  · cases hu
    refine ⟨rfl, h1, h2, fun i j p hp => ?_⟩
    have : size' = size := by
      unfold at2 at hp
      cases hq : es[i]? with
      | none => simp [hq] at hp
      | some e => have hm := List.mem_of_getElem? hq; rw [← h3 e hm, hs e hm]
    subst this
    exact ⟨_, h4 i j p hp, h5 i j p hp⟩
  · cases hu
    exact ⟨rfl, by simp, hm, fun i j p hp => by simp [at2] at hp⟩
theorem at2_lt {α : Type} {es : List (List α)} {size i j : Nat} {p : α} (hs : ∀ e ∈ es, e.length = size) (h : at2 es i j = some p) : i < es.length ∧ j < size := by
  unfold at2 at h
  cases hq : es[i]? with
  | none => simp [hq] at h
  | some e =>
    simp [hq] at h
    have := hs e (List.mem_of_getElem? hq)
    have h1 := (List.getElem?_eq_some_iff.1 hq).1
    have h2 := (List.getElem?_eq_some_iff.1 h).1
    exact ⟨h1, by omega⟩
theorem at2_append {α : Type} {es xs : List (List α)} {i j : Nat} {p : α} (h : at2 (es ++ xs) i j = some p) : (i < es.length ∧ at2 es i j = some p) ∨ (es.length ≤ i ∧ at2 xs (i - es.length) j = some p) := by
  unfold at2 at h ⊢
  by_cases hi : i < es.length
  · rw [List.getElem?_append_left hi] at h; exact .inl ⟨hi, h⟩
  · rw [List.getElem?_append_right (by omega)] at h; exact .inr ⟨by omega, h⟩
theorem at2_sub {α : Type} {es : List (List α)} {h l i j : Nat} {p : α} (hp : at2 ((es.take h).drop l) i j = some p) : at2 es (l + i) j = some p ∧ l + i < h := by
  unfold at2 at hp ⊢
  rw [List.getElem?_drop, List.getElem?_take] at hp
  split at hp
  · exact ⟨hp, ‹_›⟩
  · simp at hp
theorem sub_sized {es : List (List PV)} {size h l : Nat} (hs : ∀ e ∈ es, e.length = size) : ∀ e ∈ (es.take h).drop l, e.length = size :=
  fun e he => hs e (List.mem_of_mem_take (List.mem_of_mem_drop he))
theorem VP.sub {F : Nat → Nat → Option Value} {es : List (List PV)} {size b off n cap h l m : Nat} (hv : VP F (.sl es) (.slice (some ⟨b, off, none⟩) n cap)) (hs : ∀ e ∈ es, e.length = size)
    (h1 : l ≤ h) (h2 : h ≤ es.length) (h3 : h ≤ m) (h4 : m ≤ cap) :
    VP F (.sl ((es.take h).drop l)) (.slice (if m = l then some ⟨b, off, none⟩ else some ⟨b, off + l * size, none⟩) (h - l) (m - l)) := by
  obtain ⟨rfl, _, hm, hg⟩ := hv.get hs
  have hlen : ((es.take h).drop l).length = h - l := by simp; omega
  rw [← hlen]
  split
  · refine .mk (size := size) (by omega) (by omega) (sub_sized hs) ?_
    intro i j p hp
    have := at2_lt (sub_sized hs) hp
    omega
  · refine .mk (size := size) (by omega) (by omega) (sub_sized hs) ?_
    intro i j p hp
    obtain ⟨e1, e2⟩ := at2_sub hp
    obtain ⟨y, hy, hv⟩ := hg (l + i) j p e1
    refine ⟨y, ?_, hv⟩
    rw [← hy]
    congr 1
    rw [Nat.add_mul]; omega
theorem run_bound {ox : Option Operand} {oy : Option LX} (hc : compO ox = some oy) (hx : ∀ x, ox = some x → ∀ y, compX x = some y → VL G (y.ev t) (a.eval x)) {y d r : Nat}
    (hb : bnd y (oy.map (LX.ev t)) d = some r) : (ox = none ∧ oy = none ∧ r = d) ∨ ∃ x k n, ox = some x ∧ oy.isSome = true ∧ a.eval x = .int k n ∧ 0 ≤ n ∧ n ≤ y ∧ r = n.toNat := by
  cases ox with
  | none => simp only [compO] at hc; cases hc; simp only [Option.map_none, bnd] at hb; cases hb; exact .inl ⟨rfl, rfl, rfl⟩
  | some x =>
    simp only [compO] at hc
    split at hc
    · rename_i y' hy
      cases hc
      have := hx x rfl y' hy
      simp only [Option.map_some] at hb
      generalize y'.ev t = lv at this hb
      cases lv with
      | p pv => cases pv with
        | int k n =>
          simp only [bnd] at hb
          split at hb
          · rename_i hn; cases hb; exact .inr ⟨x, k, n, rfl, rfl, this.int_inv, hn.1, hn.2, rfl⟩
          · cases hb
        | _ => simp [bnd] at hb
      | _ => simp [bnd] at hb
    · cases hc
theorem op_slice_str {ty : TypeId} {x : Operand} {lo hi mx : Option Operand} (ho : o.op = .slice ty x lo hi mx) (hty : P.underlying ty = some .string) {x' : LX} {lo' hi' mx' : Option LX}
    (hx' : compX x = some x') (hlo : compO lo = some lo') (hhi : compO hi = some hi') (hmx : compO mx = some mx') {s : List UInt8} (hs : x'.ev t = .p (.str s)) (hmn : (mx'.map (LX.ev t)).isSome = false)
    {hh l : Nat} (h1 : bnd s.length (hi'.map (LX.ev t)) s.length = some hh) (h2 : bnd hh (lo'.map (LX.ev t)) 0 = some l)
    (h : WR G st w) (hx : XsR G t a o.op) : OpTo P o a w (Good G st w (.p (.str ((s.take hh).drop l))) st) := by
  have e1 := hx x (by rw [ho]; simp [Op.operands]) x' hx'
  rw [hs] at e1
  have hu := e1.str_inv
  have b1 := run_bound (a := a) (G := G) hhi (fun x e y hy => hx x (by rw [ho]; simp [Op.operands, e]) y hy) h1
  have b2 := run_bound (a := a) (G := G) hlo (fun x e y hy => hx x (by rw [ho]; simp [Op.operands, e]) y hy) h2
  have hmx0 : mx = none := by
    cases mx with
    | none => rfl
    | some z =>
      simp only [compO] at hmx
      split at hmx
      · cases hmx; simp at hmn
      · cases hmx
  subst hmx0
  have hres : (⟨((s.take hh).drop l).toArray⟩ : ByteArray) = (⟨s.toArray⟩ : ByteArray).extract l hh := by
    apply ByteArray.ext
    apply Array.ext'
    simp [List.drop_take]
  refine opTo_value (u := .string ⟨((s.take hh).drop l).toArray⟩) (w' := w) ?_ (.same h (.p (.str _)))
  rw [hres]
  rcases b1 with ⟨rfl, _, rfl⟩ | ⟨xh, kh, nh, rfl, _, uh, a1, a2, rfl⟩ <;> rcases b2 with ⟨rfl, _, rfl⟩ | ⟨xl, kl, nl, rfl, _, ul, c1, c2, rfl⟩
  · simp [execOp, ho, hu, Instr.sliceAt, Instr.slice, Instr.sliceBounds, run_underlying hty]
    try simpa using hres
  · have : (Instr.sliceBound (.int kl nl) s.length .sliceB).run P w = .ok nl.toNat w := run_sliceBound w kl nl s.length .sliceB c1 c2
    simp [execOp, ho, hu, Instr.sliceAt, Instr.slice, Instr.sliceBounds, run_underlying hty, ul, this]
  · have : (Instr.sliceBound (.int kh nh) s.length .sliceAlen).run P w = .ok nh.toNat w := run_sliceBound w kh nh s.length .sliceAlen a1 a2
    simp [execOp, ho, hu, Instr.sliceAt, Instr.slice, Instr.sliceBounds, run_underlying hty, uh, this]
  · have : (Instr.sliceBound (.int kh nh) s.length .sliceAlen).run P w = .ok nh.toNat w := run_sliceBound w kh nh s.length .sliceAlen a1 a2
    have h3 : (Instr.sliceBound (.int kl nl) nh.toNat .sliceB).run P w = .ok nl.toNat w := run_sliceBound w kl nl _ .sliceB c1 c2
    simp [execOp, ho, hu, Instr.sliceAt, Instr.slice, Instr.sliceBounds, run_underlying hty, uh, ul, this, h3]
theorem run_bounds {lo hi mx : Option Operand} {lo' hi' mx' : Option LX} (hlo : compO lo = some lo') (hhi : compO hi = some hi') (hmx : compO mx = some mx')
    (hx : ∀ x, (lo = some x ∨ hi = some x ∨ mx = some x) → ∀ y, compX x = some y → VL G (y.ev t) (a.eval x)) {len cap m h l : Nat} (hlc : len ≤ cap) (hmh : ¬ (mx'.isSome = true ∧ hi'.isNone = true))
    (h1 : bnd len (mx'.map (LX.ev t)) len = some m) (h2 : bnd m (hi'.map (LX.ev t)) len = some h) (h3 : bnd h (lo'.map (LX.ev t)) 0 = some l) (w : World) :
    (Instr.sliceBounds true len cap (lo.map a.eval) (hi.map a.eval) (mx.map a.eval)).run P w = .ok (l, h, if mx'.isSome then m else cap) w ∧ m ≤ len ∧ (h ≤ m ∨ (mx' = none ∧ h = len)) ∧ h ≤ len ∧ l ≤ h ∧ (mx' = none → m = len) := by
  have b1 := run_bound (a := a) (G := G) hmx (fun x e y hy => hx x (.inr (.inr e)) y hy) h1
  have b2 := run_bound (a := a) (G := G) hhi (fun x e y hy => hx x (.inr (.inl e)) y hy) h2
  have b3 := run_bound (a := a) (G := G) hlo (fun x e y hy => hx x (.inl e) y hy) h3
  rcases b1 with ⟨rfl, rfl, rfl⟩ | ⟨xm, km, nm, rfl, sm, um, m1, m2, rfl⟩
  · -- no third bound
    rcases b2 with ⟨rfl, rfl, rfl⟩ | ⟨xh, kh, nh, rfl, sh, uh, a1, a2, rfl⟩ <;> rcases b3 with ⟨rfl, rfl, rfl⟩ | ⟨xl, kl, nl, rfl, sl, ul, c1, c2, rfl⟩
    · exact ⟨by simp [Instr.sliceBounds], by omega, .inr ⟨rfl, rfl⟩, by omega, by omega, fun _ => rfl⟩
    · have g3 : (Instr.sliceBound (.int kl nl) h .sliceB).run P w = .ok nl.toNat w := run_sliceBound w kl nl _ .sliceB c1 c2
      exact ⟨by simp [Instr.sliceBounds, ul, g3], by omega, .inr ⟨rfl, rfl⟩, by omega, by omega, fun _ => rfl⟩
    · have g3 : (Instr.sliceBound (.int kh nh) cap .sliceAcap).run P w = .ok nh.toNat w := run_sliceBound w kh nh _ .sliceAcap a1 (by omega)
      exact ⟨by simp [Instr.sliceBounds, uh, g3], by omega, .inl (by omega), by omega, by omega, fun _ => rfl⟩
    · have g3 : (Instr.sliceBound (.int kh nh) cap .sliceAcap).run P w = .ok nh.toNat w := run_sliceBound w kh nh _ .sliceAcap a1 (by omega)
      have g4 : (Instr.sliceBound (.int kl nl) nh.toNat .sliceB).run P w = .ok nl.toNat w := run_sliceBound w kl nl _ .sliceB c1 c2
      exact ⟨by simp [Instr.sliceBounds, uh, ul, g3, g4], by omega, .inl (by omega), by omega, by omega, fun _ => rfl⟩
  · rcases b2 with ⟨rfl, rfl, rfl⟩ | ⟨xh, kh, nh, rfl, sh, uh, a1, a2, rfl⟩
    · simp [sm] at hmh
    · have g0 : (Instr.sliceBound (.int km nm) cap .slice3Acap).run P w = .ok nm.toNat w := run_sliceBound w km nm _ .slice3Acap m1 (by omega)
      have g3 : (Instr.sliceBound (.int kh nh) nm.toNat .slice3B).run P w = .ok nh.toNat w := run_sliceBound w kh nh _ .slice3B a1 (by omega)
      have hns : mx' ≠ none := by intro e; rw [e] at sm; cases sm
      rcases b3 with ⟨rfl, rfl, rfl⟩ | ⟨xl, kl, nl, rfl, sl, ul, c1, c2, rfl⟩
      · exact ⟨by simp [Instr.sliceBounds, um, uh, g0, g3, sm], by omega, .inl (by omega), by omega, by omega, fun e => absurd e hns⟩
      · have g4 : (Instr.sliceBound (.int kl nl) nh.toNat .slice3C).run P w = .ok nl.toNat w := run_sliceBound w kl nl _ .slice3C c1 c2
        exact ⟨by simp [Instr.sliceBounds, um, uh, ul, g0, g3, g4, sm], by omega, .inl (by omega), by omega, by omega, fun e => absurd e hns⟩
theorem run_bounds0 {lo hi mx : Option Operand} {lo' hi' mx' : Option LX} (hlo : compO lo = some lo') (hhi : compO hi = some hi') (hmx : compO mx = some mx')
    (hx : ∀ x, (lo = some x ∨ hi = some x ∨ mx = some x) → ∀ y, compX x = some y → VL G (y.ev t) (a.eval x)) {len room cap h l : Nat} (hlr : len ≤ room) (hrc : room ≤ cap) (hn : mx' = none)
    (h2 : bnd room (hi'.map (LX.ev t)) len = some h) (h3 : bnd h (lo'.map (LX.ev t)) 0 = some l) (w : World) :
    (Instr.sliceBounds true len cap (lo.map a.eval) (hi.map a.eval) (mx.map a.eval)).run P w = .ok (l, h, cap) w ∧ h ≤ room ∧ l ≤ h := by
  subst hn
  have b1 := run_bound (a := a) (G := G) (y := len) (d := len) (r := len) hmx (fun x e y hy => hx x (.inr (.inr e)) y hy) rfl
  have b2 := run_bound (a := a) (G := G) hhi (fun x e y hy => hx x (.inr (.inl e)) y hy) h2
  have b3 := run_bound (a := a) (G := G) hlo (fun x e y hy => hx x (.inl e) y hy) h3
  rcases b1 with ⟨rfl, _, _⟩ | ⟨xm, km, nm, rfl, sm, um, m1, m2, _⟩
  · rcases b2 with ⟨rfl, rfl, rfl⟩ | ⟨xh, kh, nh, rfl, sh, uh, a1, a2, rfl⟩ <;> rcases b3 with ⟨rfl, rfl, rfl⟩ | ⟨xl, kl, nl, rfl, sl, ul, c1, c2, rfl⟩
    · exact ⟨by simp [Instr.sliceBounds], by omega, by omega⟩
    · have g3 : (Instr.sliceBound (.int kl nl) h .sliceB).run P w = .ok nl.toNat w := run_sliceBound w kl nl _ .sliceB c1 c2
      exact ⟨by simp [Instr.sliceBounds, ul, g3], by omega, by omega⟩
    · have g3 : (Instr.sliceBound (.int kh nh) cap .sliceAcap).run P w = .ok nh.toNat w := run_sliceBound w kh nh _ .sliceAcap a1 (by omega)
      exact ⟨by simp [Instr.sliceBounds, uh, g3], by omega, by omega⟩
    · have g3 : (Instr.sliceBound (.int kh nh) cap .sliceAcap).run P w = .ok nh.toNat w := run_sliceBound w kh nh _ .sliceAcap a1 (by omega)
      have g4 : (Instr.sliceBound (.int kl nl) nh.toNat .sliceB).run P w = .ok nl.toNat w := run_sliceBound w kl nl _ .sliceB c1 c2
      exact ⟨by simp [Instr.sliceBounds, uh, ul, g3, g4], by omega, by omega⟩
  · simp at sm
theorem run_boundsM {lo hi mx : Option Operand} {lo' hi' mx' : Option LX} (hlo : compO lo = some lo') (hhi : compO hi = some hi') (hmx : compO mx = some mx')
    (hx : ∀ x, (lo = some x ∨ hi = some x ∨ mx = some x) → ∀ y, compX x = some y → VL G (y.ev t) (a.eval x)) {len room cap m h l : Nat} (hrc : room ≤ cap) (hms : mx'.isSome = true) (hhs : hi'.isSome = true)
    (h1 : bnd room (mx'.map (LX.ev t)) len = some m) (h2 : bnd m (hi'.map (LX.ev t)) len = some h) (h3 : bnd h (lo'.map (LX.ev t)) 0 = some l) (w : World) :
    (Instr.sliceBounds true len cap (lo.map a.eval) (hi.map a.eval) (mx.map a.eval)).run P w = .ok (l, h, m) w ∧ m ≤ room ∧ h ≤ m ∧ l ≤ h := by
  have b1 := run_bound (a := a) (G := G) hmx (fun x e y hy => hx x (.inr (.inr e)) y hy) h1
  have b2 := run_bound (a := a) (G := G) hhi (fun x e y hy => hx x (.inr (.inl e)) y hy) h2
  have b3 := run_bound (a := a) (G := G) hlo (fun x e y hy => hx x (.inl e) y hy) h3
  rcases b1 with ⟨rfl, rfl, rfl⟩ | ⟨xm, km, nm, rfl, sm, um, m1, m2, rfl⟩
  · simp at hms
  · rcases b2 with ⟨rfl, rfl, rfl⟩ | ⟨xh, kh, nh, rfl, sh, uh, a1, a2, rfl⟩
    · simp at hhs
    · have g0 : (Instr.sliceBound (.int km nm) cap .slice3Acap).run P w = .ok nm.toNat w := run_sliceBound w km nm _ .slice3Acap m1 (by omega)
      have g3 : (Instr.sliceBound (.int kh nh) nm.toNat .slice3B).run P w = .ok nh.toNat w := run_sliceBound w kh nh _ .slice3B a1 (by omega)
      rcases b3 with ⟨rfl, rfl, rfl⟩ | ⟨xl, kl, nl, rfl, sl, ul, c1, c2, rfl⟩
      · exact ⟨by simp [Instr.sliceBounds, um, uh, g0, g3], by omega, by omega, by omega⟩
      · have g4 : (Instr.sliceBound (.int kl nl) nh.toNat .slice3C).run P w = .ok nl.toNat w := run_sliceBound w kl nl _ .slice3C c1 c2
        exact ⟨by simp [Instr.sliceBounds, um, uh, ul, g0, g3, g4], by omega, by omega, by omega⟩
end ops
end Go.LS
set_option linter.unusedVariables false
set_option linter.unusedSimpArgs false
namespace Go.LS
section ops
variable {P : Program} {G : Gh} {st st' : List LObj} {w : World} {t : List LV} {a : Act} {o : Oper} {v : LV}
theorem VL.sl_inv {G : Gh} {es : List (List PV)} {t fin : Nat} {u : Value} (h : VL G (.sl es t fin) u) : ∃ size b off cap, u = .slice (some ⟨b, off, none⟩) es.length cap ∧
    VP G.F (.sl es) u ∧ es.length ≤ cap ∧ (∀ e ∈ es, e.length = size) ∧ G.hist t fin = some ⟨b, off + es.length * size, cap - es.length, size⟩ := by
  cases h with | sl h1 h2 h3 h4 => exact ⟨_, _, _, _, rfl, h1, h2, h3, h4⟩
theorem VL.tight_inv {G : Gh} {es : List (List PV)} {u : Value} (h : VL G (.tight es) u) : ∃ ad, u = .slice ad es.length es.length ∧ VP G.F (.sl es) u := by
  cases h with | tight h => exact ⟨_, rfl, h⟩
theorem VP.int_inv {F : Nat → Nat → Option Value} {k : IntKind} {n : Int} {u : Value} (h : VP F (.int k n) u) : u = .int k n := by cases h; rfl
theorem run_sliceOp {ty e : TypeId} {x : Operand} {lo hi mx : Option Operand} (ho : o.op = .slice ty x lo hi mx) (hty : P.underlying ty = some (.slice e)) {inf : TypeInfo} (hi' : P.info? e = some inf)
    {ad : Option Addr} {len cap l h m : Nat} (hu : a.eval x = .slice ad len cap)
    (hb : (Instr.sliceBounds true len cap (lo.map a.eval) (hi.map a.eval) (mx.map a.eval)).run P w = .ok (l, h, m) w) :
    (execOp a.eval o).run P w = .ok (.value (.slice (if m = l then ad else ad.map (·.add (l * inf.size))) (h - l) (m - l))) w := by
  simp [execOp, ho, hu, Instr.sliceAt, Instr.slice, run_underlying hty, hb, sizeOf, typeInfo, hi']
theorem op_slice_rs {ty e : TypeId} {x : Operand} {lo hi mx : Option Operand} (ho : o.op = .slice ty x lo hi mx) (hty : P.underlying ty = some (.slice e)) {inf : TypeInfo} (hinf : P.info? e = some inf)
    {x' : LX} {lo' hi' mx' : Option LX} (hx' : compX x = some x') (hlo : compO lo = some lo') (hhi : compO hi = some hi') (hmx : compO mx = some mx') {q off len : Nat} (hs : x'.ev t = .rs q off len)
    (hmn : mx' = none) {es : List (List LV)} (hst : st[q]? = some (.row es)) {hh l : Nat} (h1 : bnd (es.length - off) (hi'.map (LX.ev t)) len = some hh) (h2 : bnd hh (lo'.map (LX.ev t)) 0 = some l) (hl : l < es.length - off ∧ off + len ≤ es.length)
    {e0 : List LV} (he0 : es[off]? = some e0) (he0s : e0.length = inf.size)
    (h : WR G st w) (hx : XsR G t a o.op) : OpTo P o a w (Good G st w (.rs q (off + l) (hh - l)) st) := by
  have e1 := hx x (by rw [ho]; simp [Op.operands]) x' hx'
  rw [hs] at e1
  obtain ⟨blk, size, n, cap, hloc, hu, hm, hlc, hn⟩ := e1.rs_inv
  obtain ⟨blk', size', n', e5, arr, ty', hb, hz, hmm, hr⟩ := h.row q es hst _ hloc
  cases e5
  have hse : size = inf.size := (hr.1 e0 (List.mem_of_getElem? he0)).symm.trans he0s
  obtain ⟨hl1, hl2⟩ := hl
  have hbo := run_bounds0 (P := P) (G := G) (t := t) (a := a) (len := len) (room := es.length - off) (cap := cap) hlo hhi hmx (fun x hc y hy => hx x (by rw [ho]; rcases hc with rfl | rfl | rfl <;> simp [Op.operands]) y hy) (by omega) (by omega) hmn h1 h2 w
  obtain ⟨b0, b1, b2⟩ := hbo
  refine opTo_value (run_sliceOp ho hty hinf hu b0) (.same h ?_)
  rw [if_neg (by omega)]
  simp only [Option.map_some, Addr.add_lit]
  subst hse
  rw [← Nat.add_mul]
  exact .rs hloc (by omega) (by omega) (by omega)
theorem op_slice_rs0 {ty e : TypeId} {x : Operand} {lo hi mx : Option Operand} (ho : o.op = .slice ty x lo hi mx) (hty : P.underlying ty = some (.slice e)) {inf : TypeInfo} (hinf : P.info? e = some inf)
    {x' : LX} {lo' hi' mx' : Option LX} (hx' : compX x = some x') (hlo : compO lo = some lo') (hhi : compO hi = some hi') (hmx : compO mx = some mx') {q off len : Nat} (hs : x'.ev t = .rs q off len)
    (hmn : mx' = none) {es : List (List LV)} (hst : st[q]? = some (.row es)) {hh l : Nat} (h1 : bnd (es.length - off) (hi'.map (LX.ev t)) len = some hh) (h2 : bnd hh (lo'.map (LX.ev t)) 0 = some l) (hl : l = es.length - off ∧ off + len ≤ es.length)
    (h : WR G st w) (hx : XsR G t a o.op) : OpTo P o a w (Good G st w (.p (.sl [])) st) := by
  have e1 := hx x (by rw [ho]; simp [Op.operands]) x' hx'
  rw [hs] at e1
  obtain ⟨blk, size, n, cap, hloc, hu, hm, hlc, hn⟩ := e1.rs_inv
  obtain ⟨blk', size', n', e5, arr, ty', hb, hz, hmm, hr⟩ := h.row q es hst _ hloc
  cases e5
  obtain ⟨hl1, hl2⟩ := hl
  have hbo := run_bounds0 (P := P) (G := G) (t := t) (a := a) (len := len) (room := es.length - off) (cap := cap) hlo hhi hmx (fun x hc y hy => hx x (by rw [ho]; rcases hc with rfl | rfl | rfl <;> simp [Op.operands]) y hy) (by omega) (by omega) hmn h1 h2 w
  obtain ⟨b0, b1, b2⟩ := hbo
  refine opTo_value (run_sliceOp ho hty hinf hu b0) (.same h ?_)
  have e2 : hh - l = 0 := by omega
  rw [e2]
  split
  · exact .p (.sl0 _ _ (by omega))
  · simp only [Option.map_some]
    exact .p (.sl0 _ _ (by omega))
theorem op_slice_rsm {ty e : TypeId} {x : Operand} {lo hi mx : Option Operand} (ho : o.op = .slice ty x lo hi mx) (hty : P.underlying ty = some (.slice e)) {inf : TypeInfo} (hinf : P.info? e = some inf)
    {x' : LX} {lo' hi' mx' : Option LX} (hx' : compX x = some x') (hlo : compO lo = some lo') (hhi : compO hi = some hi') (hmx : compO mx = some mx') {q off len : Nat} (hs : x'.ev t = .rs q off len)
    (hms : mx'.isSome = true) (hhs : hi'.isSome = true) {es : List (List LV)} (hst : st[q]? = some (.row es)) {m hh l : Nat} (h0 : bnd (es.length - off) (mx'.map (LX.ev t)) len = some m) (h1 : bnd m (hi'.map (LX.ev t)) len = some hh) (h2 : bnd hh (lo'.map (LX.ev t)) 0 = some l)
    (h : WR G st w) (hx : XsR G t a o.op) : OpTo P o a w (Good G st w (if m = l then .tight [] else .und) st) := by
  have e1 := hx x (by rw [ho]; simp [Op.operands]) x' hx'
  rw [hs] at e1
  obtain ⟨blk, size, n, cap, hloc, hu, hm, hlc, hn⟩ := e1.rs_inv
  obtain ⟨blk', size', n', e5, arr, ty', hb, hz, hmm, hr⟩ := h.row q es hst _ hloc
  cases e5
  have hbo := run_boundsM (P := P) (G := G) (t := t) (a := a) (len := len) (room := es.length - off) (cap := cap) hlo hhi hmx (fun x hc y hy => hx x (by rw [ho]; rcases hc with rfl | rfl | rfl <;> simp [Op.operands]) y hy) (by omega) hms hhs h0 h1 h2 w
  obtain ⟨b0, b1, b2, b3⟩ := hbo
  refine opTo_value (run_sliceOp ho hty hinf hu b0) (.same h ?_)
  by_cases hml : m = l
  · rw [if_pos hml, if_pos hml]
    have e2 : hh - l = 0 := by omega
    have e3 : m - l = 0 := by omega
    rw [e2, e3]
    exact .tight (es := []) (.sl0 _ 0 (Nat.zero_le _))
  · rw [if_neg hml, if_neg hml]
    exact .und _
theorem op_slice_v {ty e : TypeId} {x : Operand} {lo hi mx : Option Operand} (ho : o.op = .slice ty x lo hi mx) (hty : P.underlying ty = some (.slice e)) {inf : TypeInfo} (hinf : P.info? e = some inf)
    {x' : LX} {lo' hi' mx' : Option LX} (hx' : compX x = some x') (hlo : compO lo = some lo') (hhi : compO hi = some hi') (hmx : compO mx = some mx')
    (hr : lslice (x'.ev t) (lo'.map (LX.ev t)) (hi'.map (LX.ev t)) (mx'.map (LX.ev t)) = some v) {es : List (List PV)} (hes : (x'.ev t).asSl = some es) (hsz : ∀ e ∈ es, e.length = inf.size)
    (h : WR G st w) (hx : XsR G t a o.op) : OpTo P o a w (Good G st w v st) := by
  have e1 := hx x (by rw [ho]; simp [Op.operands]) x' hx'
  have hvp := asSl_sound hes e1
  -- what LS does
  have hls : (if (mx'.map (LX.ev t)).isSome ∧ (hi'.map (LX.ev t)).isNone then none else match bnd es.length (mx'.map (LX.ev t)) es.length with
      | none => none
      | some m => match bnd m (hi'.map (LX.ev t)) es.length with
        | none => none
        | some h => match bnd h (lo'.map (LX.ev t)) 0 with
          | none => none
          | some l =>
            if (mx'.map (LX.ev t)).isSome ∧ h = m then some (.tight ((es.take h).drop l))
            else if (mx'.map (LX.ev t)).isNone ∧ h = es.length ∧ l < es.length then
              (match x'.ev t with
               | .sl es t fin => some (.sl (es.drop l) t fin)
               | .tight es => some (.tight (es.drop l))
               | _ => some (.p (.sl (es.drop l))))
            else some (.p (.sl ((es.take h).drop l)))) = some v := by
    rw [← hr]
    revert hes
    generalize x'.ev t = lv
    intro hes
    unfold LV.asSl at hes
    split at hes <;> cases hes <;> rfl
  split at hls
  · cases hls
  rename_i hmh
  split at hls
  · cases hls
  rename_i m hbm
  split at hls
  · cases hls
  rename_i hh hbh
  split at hls
  · cases hls
  rename_i l hbl
  have hmh' : ¬ (mx'.isSome = true ∧ hi'.isNone = true) := by simpa using hmh
  have hxx : ∀ x, (lo = some x ∨ hi = some x ∨ mx = some x) → ∀ y, compX x = some y → VL G (y.ev t) (a.eval x) :=
    fun x hc y hy => hx x (by rw [ho]; rcases hc with rfl | rfl | rfl <;> simp [Op.operands]) y hy
  generalize hu : a.eval x = u at e1 hvp
  rcases hvp.slice with ⟨rfl, rfl⟩ | ⟨size, b, off, cap, rfl, h1, h2, h3, vals, h4, h5⟩ | ⟨rfl, ad, cap, rfl, hcm⟩
  · -- nil
    obtain ⟨b0, b1, b2, b3, b4, b5⟩ := run_bounds (P := P) (G := G) (t := t) (a := a) hlo hhi hmx hxx (Nat.le_refl 0) hmh' hbm hbh hbl w
    try simp only [List.length_nil] at b1 b3
    have hl : l = 0 := by omega
    have hhh : hh = 0 := by omega
    have hm0 : m = 0 := by omega
    subst hl hhh hm0
    have hrun := run_sliceOp ho hty hinf hu b0
    simp at hrun
    refine opTo_value hrun (.same h ?_)
    simp at hls
    split at hls <;> cases hls
    · exact .tight (es := []) .nils
    · exact .p .nils
  · obtain ⟨b0, b1, b2, b3, b4, b5⟩ := run_bounds (P := P) (G := G) (t := t) (a := a) hlo hhi hmx hxx h1 hmh' hbm hbh hbl w
    have hrun := run_sliceOp ho hty hinf hu b0
    simp only [Option.map_some, Addr.add_lit] at hrun
    have hsub : ∀ m', hh ≤ m' → m' ≤ cap → VP G.F (.sl ((es.take hh).drop l)) (.slice (if m' = l then some ⟨b, off, none⟩ else some ⟨b, off + l * inf.size, none⟩) (hh - l) (m' - l)) :=
      fun m' c1 c2 => hvp.sub hsz b4 b3 c1 c2
    have hlen : ((es.take hh).drop l).length = hh - l := by simp; omega
    refine opTo_value hrun (.same h ?_)
    cases hmx' : mx' with
    | some mm =>
      have hle : hh ≤ m := by rcases b2 with b2 | ⟨e, _⟩; · exact b2
                              · rw [hmx'] at e; cases e
      rw [hmx'] at hls
      simp only [Option.map_some, Option.isSome_some, true_and, Option.isNone_some, Bool.false_eq_true, false_and, if_false, if_true] at hls ⊢
      have hs := hsub m hle (by omega)
      split at hls
      · rename_i hhm
        cases hls
        subst hhm
        rw [← hlen] at hs ⊢
        exact .tight hs
      · cases hls; exact .p hs
    | none =>
      have hs := hsub cap (by omega) (Nat.le_refl _)
      rw [hmx'] at hls
      simp only [Option.map_none, Option.isSome_none, Bool.false_eq_true, false_and, if_false, Option.isNone_none, true_and] at hls ⊢
      split at hls
      · rename_i hc
        obtain ⟨hhe, hlt⟩ := hc
        subst hhe
        rw [List.take_length] at hs hlen
        rw [if_neg (by omega)] at hs ⊢
        revert hls e1
        generalize x'.ev t = lv at hes
        intro e1 hls
        split at hls
        · rename_i es0 t0 fin
          simp only [LV.asSl] at hes; cases hes
          cases hls
          obtain ⟨sz, b', off', cap', hueq, _, g2, g3, g4⟩ := e1.sl_inv
          cases hueq
          rw [← hlen] at hs ⊢
          have hse : sz = inf.size := by
            have hm : es[0]'(by omega) ∈ es := List.getElem_mem _
            rw [← g3 _ hm, hsz _ hm]
          refine .sl (size := sz) hs (by omega) (fun e he => g3 e (List.mem_of_mem_drop he)) ?_
          rw [g4]
          simp only [List.length_drop, Option.some.injEq, Sp.mk.injEq, true_and, and_true]
          subst hse
          rw [Nat.sub_mul]
          have : l * inf.size ≤ es.length * inf.size := Nat.mul_le_mul_right _ (by omega)
          omega
        · simp only [LV.asSl] at hes; cases hes
          cases hls
          cases e1 with
          | tight g1 => rw [← hlen] at hs ⊢; exact .tight hs
        · cases hls; exact .p hs
      · cases hls; exact .p hs
  · -- nothing, at some place
    obtain ⟨b0, b1, b2, b3, b4, b5⟩ := run_bounds (P := P) (G := G) (t := t) (a := a) hlo hhi hmx hxx (Nat.zero_le cap) hmh' hbm hbh hbl w
    try simp only [List.length_nil] at b1 b3
    have hl : l = 0 := by omega
    have hhh : hh = 0 := by omega
    have hm0 : m = 0 := by omega
    subst hl hhh hm0
    have hrun := run_sliceOp ho hty hinf hu b0
    have hadd : ad.add 0 = ad := by simp [Addr.add]
    simp only [Option.map_some, Nat.zero_mul, hadd, ite_self] at hrun
    refine opTo_value hrun (.same h ?_)
    cases hmm : mx' with
    | none =>
      simp [hmm] at hls ⊢
      subst hls
      exact .p (.sl0 _ _ hcm)
    | some y =>
      simp [hmm] at hls ⊢
      subst hls
      exact .tight (es := []) (.sl0 _ _ (by simp))
theorem unb_inv {e : List PV} {b : UInt8} (h : unb e = some b) : ∃ n : Int, e = [.int .u8 n] ∧ b = UInt8.ofNat n.toNat := by
  unfold unb at h
  split at h
  · cases h; exact ⟨_, rfl, rfl⟩
  · cases h
theorem unbs_inv : ∀ {es : List (List PV)} {l : List UInt8}, unbs es = some l → ∃ ns : List Int, es = ns.map (fun n => [PV.int .u8 n]) ∧ l = ns.map (fun n => UInt8.ofNat n.toNat)
  | [], l, h => by simp only [unbs] at h; cases h; exact ⟨[], rfl, rfl⟩
  | e :: r, l, h => by
    simp only [unbs] at h
    split at h
    · rename_i b l' hb hl
      cases h
      obtain ⟨n, rfl, rfl⟩ := unb_inv hb
      obtain ⟨ns, rfl, rfl⟩ := unbs_inv hl
      exact ⟨n :: ns, rfl, rfl⟩
    · cases h
theorem foldl_push (ns : List Int) : ∀ (r : ByteArray), ns.foldl (fun r n => r.push (UInt8.ofNat n.toNat)) r = ⟨r.data ++ (ns.map fun n => UInt8.ofNat n.toNat).toArray⟩ := by
  induction ns with
  | nil => intro r; simp
  | cons n ns ih => intro r; rw [List.foldl_cons, ih]; simp [ByteArray.push]
theorem op_b2s {src dst e : TypeId} {x : Operand} (ho : o.op = .convert src dst x) (hs : P.underlying src = some (.slice e)) (he : P.underlying e = some (.int .u8)) (hd : P.underlying dst = some .string)
    {y : LX} (hy : compX x = some y) {es : List (List PV)} (hes : (y.ev t).asSl = some es) {l : List UInt8} (hl : unbs es = some l) (h : WR G st w) (hx : XsR G t a o.op) :
    OpTo P o a w (Good G st w (.p (.str l)) st) := by
  have h1 := asSl_sound hes (hx x (by rw [ho]; simp [Op.operands]) y hy)
  obtain ⟨ns, rfl, rfl⟩ := unbs_inv hl
  refine opTo_value (u := .string ⟨(ns.map fun n => UInt8.ofNat n.toNat).toArray⟩) (w' := w) ?_ (.same h (.p (.str _)))
  rcases h1.slice with ⟨e0, hu⟩ | ⟨size, b, off, cap, hu, g1, g2, g3, vals, g4, g5⟩ | ⟨e0, ad, cap, hu, _⟩
  · have : ns = [] := by simpa using e0
    subst this
    simp only [execOp, ho, hu, Sem.run_bind, run_convert_bytes_string w src dst e none 0 0 hs he hd]
    simp [Conv.bytesToString]
    rfl
  · simp only [List.length_map] at hu
    have hcell : ∀ j v, (ns.map (Value.int .u8))[j]? = some v → w.cell? ((⟨b, off, none⟩ : Addr).add j) = some v := by
      intro j v hv
      rw [List.getElem?_map] at hv
      cases hq : ns[j]? with
      | none => simp [hq] at hv
      | some n =>
        simp [hq] at hv; subst hv
        have hat : at2 (ns.map (fun n => [PV.int .u8 n])) j 0 = some (.int .u8 n) := by simp [at2, hq]
        have hsz : size = 1 := by rw [← g3 [.int .u8 n] (List.mem_of_getElem? (by rw [List.getElem?_map, hq]; rfl))]; rfl
        have h4 := g4 _ _ _ hat
        have h5 := g5 _ _ _ hat
        rw [h5.int_inv] at h4
        subst hsz
        have := h.fr _ _ _ h4
        rw [Addr.add_lit]
        simpa using this
    have hlc := run_loadCells_list (P := P) w ⟨b, off, none⟩ (ns.map (Value.int .u8)) hcell
    rw [List.length_map] at hlc
    simp only [execOp, ho, hu, Sem.run_bind, run_convert_bytes_string w src dst e _ _ _ hs he hd, run_bytesToString w _ _ _ ns hlc, foldl_push]
    simp
  · have : ns = [] := by simpa using e0
    subst this
    simp only [execOp, ho, hu, Sem.run_bind, run_convert_bytes_string w src dst e (some ad) 0 cap hs he hd]
    simp [Conv.bytesToString]
    rfl
end ops
end Go.LS

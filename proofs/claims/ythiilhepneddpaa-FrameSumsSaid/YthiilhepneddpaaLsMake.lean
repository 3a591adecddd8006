/- Objects that are made in any order. -/
import Derived.Test.YthiilhepneddpaaLsStep
set_option linter.unusedVariables false
set_option linter.unusedSimpArgs false
namespace Go.LS

/-- An object without a place at the end of the store. -/
theorem owns_snoc0 {G : Gh} {st : List LObj} {x : LObj} (h1 : G.loc st.length = none) (h2 : ∀ f, G.hist st.length f = none) {o b : Nat} (ho : Owns G (st ++ [x]) o b) : Owns G st o b ∧ o < st.length := by
  have := Owns.lt ho
  simp at this
  rcases Nat.lt_or_ge o st.length with h' | h'
  · exact ⟨(Owns.snoc h' rfl (fun _ => rfl)).1 ho, h'⟩
  · obtain rfl : o = st.length := by omega
    unfold Owns at ho
    rw [get_snoc] at ho
    cases x <;> simp [h1, h2] at ho

theorem WR.snoc {G : Gh} {st : List LObj} {w : World} (h : WR G st w) (x : LObj) : WR G (st ++ [x]) w := by
  obtain ⟨h1, h2⟩ := h.dom st.length (Nat.le_refl _)
  refine ⟨h.fr, ?_, ?_, ?_, ?_, ?_, ?_, ?_, ?_⟩
  · intro o ho
    simp at ho
    exact h.dom o (by omega)
  · intro o es ho l hl
    rcases get_snoc_cases ho with ⟨_, ho⟩ | ⟨rfl, _⟩
    · exact h.row o es ho l hl
    · rw [h1] at hl; cases hl
  · intro o es ho l hl
    rcases get_snoc_cases ho with ⟨_, ho⟩ | ⟨rfl, _⟩
    · exact h.map o es ho l hl
    · rw [h1] at hl; cases hl
  · intro o s p ho l hl
    rcases get_snoc_cases ho with ⟨_, ho⟩ | ⟨rfl, _⟩
    · exact h.iter o s p ho l hl
    · rw [h1] at hl; cases hl
  · intro o n hw ho
    rcases get_snoc_cases ho with ⟨_, ho⟩ | ⟨rfl, _⟩
    · exact h.spare o n hw ho
    · exact ⟨fun f _ => h2 f, fun s hs => by rw [h2] at hs; cases hs⟩
  · intro o o' b ho ho'
    exact h.uniq o o' b (owns_snoc0 h1 h2 ho).1 (owns_snoc0 h1 h2 ho').1
  · intro o b ho hn
    obtain ⟨a, c⟩ := owns_snoc0 h1 h2 ho
    exact h.ownF o b a (fun ⟨n, hw, e⟩ => hn ⟨n, hw, by rw [get_snoc_lt c]; exact e⟩)
  · intro o y ho hy f
    rcases get_snoc_cases ho with ⟨_, ho⟩ | ⟨rfl, _⟩
    · exact h.kind o y ho hy f
    · exact h2 f

theorem Ext0.snoc {G : Gh} {st : List LObj} {w : World} (h : WR G st w) (x : LObj) : Ext0 G st w G (st ++ [x]) w := by
  obtain ⟨h1, h2⟩ := h.dom st.length (Nat.le_refl _)
  exact ⟨.refl G, rfl, rfl, rfl, Nat.le_refl _, fun _ _ _ => rfl, fun o b ho _ => ⟨o, (owns_snoc0 h1 h2 ho).1⟩, fun _ _ _ hv _ _ => hv⟩

/-- What a new object may be, and where. -/
def NewAt (G : Gh) (w : World) (x : LObj) (l : Loc) (ob : Obj) : Prop :=
  (∃ es size n arr e, x = .row es ∧ l = .row w.heap.size size n ∧ ob = .cells arr e ∧ arr.size = n * size ∧ es.length ≤ n ∧ rowOk G arr es size) ∨
  (∃ kv es clock, x = .map kv ∧ l = .map w.heap.size ∧ ob = .map es clock ∧ mapOk G es kv)

/-- An object that the store holds already gets its place. -/
theorem WR.place {G : Gh} {st : List LObj} {w : World} (h : WR G st w) {o : Nat} {x : LObj} (hs : st[o]? = some x) (hl : G.loc o = none) (hh : ∀ f, G.hist o f = none) (l : Loc) (ob : Obj) (hx : NewAt G w x l ob) :
    WR (G.addLoc o l) st (w.alloc ob) ∧ Ext0 G st w (G.addLoc o l) st (w.alloc ob) := by
  have holt : o < st.length := (List.getElem?_eq_some_iff.1 hs).1
  have hle : G.le (G.addLoc o l) := Gh.le_addLoc hl
  have hloc : ∀ q, q ≠ o → (G.addLoc o l).loc q = G.loc q := fun q hq => by simp [Gh.addLoc, hq]
  have hnew : (G.addLoc o l).loc o = some l := by simp [Gh.addLoc]
  have hns : ∀ n hw, x ≠ .spare n hw := by
    intro n hw e
    rcases hx with ⟨_, _, _, _, _, rfl, _⟩ | ⟨_, _, _, rfl, _⟩ <;> cases e
  have hoo : ∀ q b, Owns (G.addLoc o l) st q b → (q ≠ o ∧ Owns G st q b) ∨ (q = o ∧ b = w.heap.size) := by
    intro q b hq
    by_cases e : q = o
    · refine .inr ⟨e, ?_⟩
      subst e
      unfold Owns at hq
      rw [hs, hnew] at hq
      rcases hx with ⟨_, _, _, _, _, rfl, rfl, _⟩ | ⟨_, _, _, rfl, rfl, _⟩ <;> simp at hq
      · exact hq.symm
      · exact hq.symm
    · refine .inl ⟨e, ?_⟩
      unfold Owns at hq ⊢
      rw [hloc q e] at hq
      exact hq
  refine ⟨⟨?_, ?_, ?_, ?_, ?_, ?_, ?_, ?_, fun q y hq hy f => h.kind q y hq hy f⟩, ⟨hle, rfl, rfl, rfl, by simp, ?_, ?_, ?_⟩⟩
  · intro b q v hv
    rw [cell_old (h.fr_lt hv)]
    exact h.fr b q v hv
  · intro q hq
    exact ⟨by rw [hloc q (by omega)]; exact (h.dom q hq).1, (h.dom q hq).2⟩
  · intro q es hq l' hl'
    by_cases e : q = o
    · subst e
      rw [hs] at hq; cases hq
      rw [hnew] at hl'; cases hl'
      rcases hx with ⟨es', size, n, arr, e, hx, rfl, rfl, h1, h2, h3⟩ | ⟨_, _, _, hx, _⟩
      · cases hx
        exact ⟨_, size, n, rfl, arr, e, heap_alloc_new w _, h1, h2, h3.mono hle⟩
      · cases hx
    · rw [hloc q e] at hl'
      obtain ⟨blk, size, n, e, arr, ty, hb, r⟩ := h.row q es hq l' hl'
      exact ⟨blk, size, n, e, arr, ty, by rw [heap_old (lt_of_heap hb)]; exact hb, r.1, r.2.1, r.2.2.mono hle⟩
  · intro q kv hq l' hl'
    by_cases e : q = o
    · subst e
      rw [hs] at hq; cases hq
      rw [hnew] at hl'; cases hl'
      rcases hx with ⟨_, _, _, _, _, hx, _⟩ | ⟨kv', es, c, hx, rfl, rfl, h3⟩
      · cases hx
      · cases hx
        exact ⟨_, rfl, es, c, heap_alloc_new w _, h3.mono hle⟩
    · rw [hloc q e] at hl'
      obtain ⟨blk, e, es, c, hb, r⟩ := h.map q kv hq l' hl'
      exact ⟨blk, e, es, c, by rw [heap_old (lt_of_heap hb)]; exact hb, r.mono hle⟩
  · intro q s pos hq l' hl'
    by_cases e : q = o
    · subst e
      rw [hs] at hq; cases hq
      rcases hx with ⟨_, _, _, _, _, hx, _⟩ | ⟨_, _, _, hx, _⟩ <;> cases hx
    · rw [hloc q e] at hl'
      obtain ⟨blk, e, hb⟩ := h.iter q s pos hq l' hl'
      exact ⟨blk, e, by rw [heap_old (lt_of_heap hb)]; exact hb⟩
  · intro q n hw hq
    obtain ⟨h1, h2⟩ := h.spare q n hw hq
    refine ⟨h1, fun s hs => ?_⟩
    obtain ⟨a, ⟨arr, e, hb, hz⟩, hf⟩ := h2 s hs
    exact ⟨a, ⟨arr, e, by rw [heap_old (lt_of_heap hb)]; exact hb, hz⟩, hf⟩
  · intro q q' b hq hq'
    rcases hoo q b hq with ⟨h1, h2⟩ | ⟨rfl, rfl⟩ <;> rcases hoo q' _ hq' with ⟨h3, h4⟩ | ⟨rfl, h5⟩
    · exact h.uniq q q' b h2 h4
    · have := h.owns_lt h2; omega
    · have := h.owns_lt h4; omega
    · rfl
  · intro q b hq hn off
    rcases hoo q b hq with ⟨h1, h2⟩ | ⟨rfl, rfl⟩
    · exact h.ownF q b h2 hn off
    · cases hf : (G.addLoc q l).F w.heap.size off with
      | none => rfl
      | some v => have := h.fr_lt (show G.F w.heap.size off = some v from hf); omega
  · intro b hb _; exact heap_old hb
  · intro q b hq hb
    rcases hoo q b hq with ⟨h1, h2⟩ | ⟨rfl, rfl⟩
    · exact ⟨q, h2⟩
    · omega
  · intro b off v hv _ _; exact hv

/-- The machine makes the object x, of which v tells. -/
def Places (G : Gh) (w : World) (v : LV) (x : LObj) (o : Nat) (u : Value) (w' : World) : Prop :=
  ∃ l ob, NewAt G w x l ob ∧ w' = w.alloc ob ∧ VL (G.addLoc o l) v u

section
variable {P : Program} {G : Gh} {w : World} {t : List LV} {a : Act} {o : Oper}

theorem mk_alloc {e : TypeId} (ho : o.op = .alloc e) {z : List LV} (hz : zeroOf P e = some z) (q : Nat) : OpTo P o a w (Places G w (.ptr q 0 0) (.row [z]) q) := by
  unfold zeroOf at hz
  split at hz
  · rename_i i hi
    split at hz
    · rename_i zv hzv
      have hc := constCells_sound G hz
      simp at hc
      refine opTo_value (u := .pointer (some ⟨w.heap.size, 0, none⟩)) (w' := w.alloc (.cells zv.cells e)) ?_
        ⟨.row w.heap.size z.length 1, _, .inl ⟨[z], z.length, 1, zv.cells, e, rfl, rfl, rfl, by simpa using hc.1, by simp, hc.toRow⟩, rfl, vl_newPtr ..⟩
      simp [execOp, ho, Instr.alloc, run_zeroValue hi hzv, newVar, newRow]
    · cases hz
  · cases hz

theorem mk_box {e : TypeId} {x : Operand} (ho : o.op = .box e x) {y : LX} (hy : compX x = some y) {cs : List LV} (hcs : (y.ev t).cells? = some cs) (hx : XsR G t a o.op) (q : Nat) :
    OpTo P o a w (Places G w (.ptr q 0 0) (.row [cs]) q) := by
  have h1 := hx x (by rw [ho]; simp [Op.operands]) y hy
  have hc := cells_sound hcs h1
  refine opTo_value (u := .pointer (some ⟨w.heap.size, 0, none⟩)) (w' := w.alloc (.cells (a.eval x).cells e)) ?_
    ⟨.row w.heap.size cs.length 1, _, .inl ⟨[cs], cs.length, 1, _, e, rfl, rfl, rfl, by simpa using hc.1, by simp, hc.toRow⟩, rfl, vl_newPtr ..⟩
  simp [execOp, ho, Instr.box, newVar, newRow]

theorem mk_mkmap {ty : TypeId} (ho : o.op = .makeMap ty none) (q : Nat) : OpTo P o a w (Places G w (.mp q) (.map []) q) := by
  refine opTo_value (u := .map (some w.heap.size)) (w' := w.alloc (.map #[] 0)) ?_
    ⟨.map w.heap.size, _, .inr ⟨[], #[], 0, rfl, rfl, rfl, rfl, by simp⟩, rfl, .mp (by simp [Gh.addLoc])⟩
  simp [execOp, ho, Instr.makeMap]

theorem vl_newRs (G : Gh) (o blk size len n : Nat) (h : len ≤ maxLen) (hn : len ≤ n) : VL (G.addLoc o (.row blk size n)) (.rs o 0 len) (.slice (some ⟨blk, 0, none⟩) len len) := by
  have hh := VL.rs (G := G.addLoc o (.row blk size n)) (o := o) (off := 0) (len := len) (cap := len) (blk := blk) (size := size) (n := n) (by simp [Gh.addLoc]) h (Nat.le_refl _) (by omega)
  simpa using hh

theorem mk_mkrow {ty e : TypeId} {len : Nat} {parts : Array (Nat × Operand)} (ho : o.op = .buildSlice ty len parts) (hty : P.underlying ty = some (.slice e)) {i : TypeInfo} (hi : P.info? e = some i)
    {z : List LV} (hz : zeroOf P e = some z) {ps : List (Nat × LX)} (hps : compParts parts.toList = some ps) (h0 : 0 < i.size) (hbig : len * i.size ≤ 16777216) (hzl : z.length = i.size)
    {qs : List (Nat × List LV)} (hq : evRow t ps = some qs) {es : List (List LV)} (hes : litRow i.size (List.replicate len z) qs = some es) (hx : XsR G t a o.op) (q : Nat) :
    OpTo P o a w (Places G w (.rs q 0 len) (.row es) q) := by
  obtain ⟨arr', hrun, h3, h2, hel⟩ := run_mkrow (w := w) ho hty hi hz hps h0 hbig hzl hq hes hx
  refine opTo_value hrun ⟨.row w.heap.size i.size es.length, _, .inl ⟨es, i.size, es.length, arr', e, rfl, rfl, rfl, h3, Nat.le_refl _, h2⟩, rfl, vl_newRs _ _ _ _ _ _ ?_ (by omega)⟩
  simp only [maxLen]
  have : len ≤ len * i.size := Nat.le_mul_of_pos_right _ h0
  omega

theorem mk_mkslice {ty e : TypeId} {l c : Operand} (ho : o.op = .makeSlice ty l c) (hty : P.underlying ty = some (.slice e)) {i : TypeInfo} (hi : P.info? e = some i)
    {z : List LV} (hz : zeroOf P e = some z) {l' c' : LX} (hl' : compX l = some l') (hc' : compX c = some c') {m : Int} (hm : (l'.ev t).asInt = some m) (hn : (c'.ev t).asInt = some m)
    (hc : 0 ≤ m ∧ m ≤ m ∧ m * i.bytes ≤ 281474976710656 ∧ m ≤ maxLen ∧ z.length = i.size ∧ 0 < i.size) (hx : XsR G t a o.op) (q : Nat) :
    OpTo P o a w (Places G w (.rs q 0 m.toNat) (.row (List.replicate m.toNat z)) q) := by
  obtain ⟨zv, hzr, hrun'⟩ := run_mkslice (w := w) ho hty hi hz hl' hc' hm hn hc hx
  obtain ⟨c1, c2, c3, c4, c5, c6⟩ := hc
  have hr := zeros_row hzr m.toNat (by omega)
  rw [c5] at hr
  refine opTo_value hrun' ⟨.row w.heap.size i.size m.toNat, _, .inl ⟨_, i.size, m.toNat, _, e, rfl, rfl, rfl, size_madeCells _ _, by simp, hr⟩, rfl, vl_newRs _ _ _ _ _ _ ?_ (Nat.le_refl _)⟩
  omega

def LOp.makes : LOp → Bool
  | .alloc _ | .box _ | .mkmap | .mkslice _ _ _ _ _ => true
  | .mkrow r _ _ _ _ => r
  | _ => false

theorem compNil_nm {P : Program} {op : BinOp} {t : TypeId} {x y : Operand} {lop : LOp} (h : compNil P op t x y = some lop) : lop.makes = false := by
  unfold compNil at h
  split at h
  · split at h <;> cases h <;> rfl
  · split at h <;> cases h <;> rfl
  · cases h

theorem maker_sound0 {call : CallF} {r : Bool} {lop : LOp} (hm : lop.makes = true) (hc : compOp0 P r o.op = some lop) {st st' : List LObj} {v : LV} (hs : opStep call t st lop = some (v, st')) (hx : XsR G t a o.op) :
    ∃ x, st' = st ++ [x] ∧ ((∃ es, x = .row es) ∨ (∃ kv, x = .map kv) → OpTo P o a w (Places G w v x st.length)) := by
  cases hop : o.op
  case alloc e =>
    simp only [hop, compOp0] at hc
    split at hc <;> cases hc
    simp only [opStep] at hs; cases hs
    exact ⟨_, rfl, fun _ => mk_alloc hop ‹_› _⟩
  case box e x =>
    simp only [hop, compOp0] at hc
    split at hc <;> cases hc
    simp only [opStep] at hs
    split at hs <;> cases hs
    exact ⟨_, rfl, fun _ => mk_box hop ‹_› ‹_› hx _⟩
  case buildSlice ty len parts =>
    simp only [hop, compOp0] at hc
    split at hc
    · split at hc
      · split at hc
        · rename_i hcond
          cases hc
          simp only [LOp.makes] at hm
          simp only [opStep, hm, if_true] at hs
          split at hs
          · cases hs
          · split at hs
            · cases hs
            · cases hs
              exact ⟨_, rfl, fun _ => mk_mkrow hop ‹_› ‹_› ‹_› ‹_› hcond.1 hcond.2.1 hcond.2.2 ‹_› ‹_› hx _⟩
        · cases hc
      · cases hc
    · cases hc
  case makeMap ty res =>
    simp only [hop] at hc
    cases res <;> simp only [compOp0] at hc <;> cases hc
    simp only [opStep] at hs; cases hs
    exact ⟨_, rfl, fun _ => mk_mkmap hop _⟩
  case makeSlice ty l c =>
    simp only [hop, compOp0] at hc
    split at hc
    · split at hc
      · cases hc
        simp only [opStep] at hs
        split at hs
        · split at hs
          · rename_i hcond
            split at hs
            · cases hs
              exact ⟨_, rfl, fun h => by rcases h with ⟨_, h⟩ | ⟨_, h⟩ <;> cases h⟩
            · split at hs
              · rename_i h0
                cases hs
                subst h0
                exact ⟨_, rfl, fun _ => mk_mkslice hop ‹_› ‹_› ‹_› ‹_› ‹_› ‹_› ‹_› hcond hx _⟩
              · cases hs
          · cases hs
        · cases hs
      · cases hc
    · cases hc
  all_goals
    exfalso
    simp only [hop] at hc
    first
      | (unfold compOp0 compCall at hc
         simp only at hc
         repeat' split at hc
         all_goals first | contradiction | (cases hc; cases hm; done) | (cases hc; done) | (rw [compNil_nm hc] at hm; cases hm; done))
      | (unfold compOp0 at hc
         simp only at hc
         repeat' split at hc
         all_goals first | contradiction | (cases hc; cases hm; done) | (cases hc; done) | (rw [compNil_nm hc] at hm; cases hm; done))

theorem maker_sound {call : CallF} {r : Bool} {lop : LOp} (hm : lop.makes = true) (hc : compOp P r o.op = some lop) {st st' : List LObj} {v : LV} (hs : opStep call t st lop = some (v, st')) (hx : XsR G t a o.op) :
    ∃ x, st' = st ++ [x] ∧ ((∃ es, x = .row es) ∨ (∃ kv, x = .map kv) → OpTo P o a w (Places G w v x st.length)) := by
  unfold compOp at hc
  split at hc
  · rename_i l hl
    cases hc
    exact maker_sound0 hm hl hs hx
  · cases hc; simp [opStep] at hs

end
end Go.LS

/- What it means that a machine's memory stands for a store, and how both grow. -/
import Derived.Test.YthiilhepneddpaaLsExec
import Derived.Laws.AppendOwn
set_option linter.unusedVariables false
namespace Go.LS

def rowOk (G : Gh) (arr : Array Value) (es : List (List LV)) (size : Nat) : Prop :=
  (∀ e ∈ es, e.length = size) ∧ ∀ i j c, at2 es i j = some c → ∃ u, arr[i * size + j]? = some u ∧ VL G c u ∧ u.oneCell' = true

def mapOk (G : Gh) (es : Array MapEntry) (kv : List (PV × LV)) : Prop :=
  es.size = kv.length ∧ ∀ (i : Nat) k v, kv[i]? = some (k, v) → ∃ e, es[i]? = some e ∧ VP G.F k e.key ∧ VL G v e.val

def Owns (G : Gh) (st : List LObj) (o b : Nat) : Prop :=
  match st[o]? with
  | some (.row _) => ∃ size n, G.loc o = some (.row b size n)
  | some (.map _) => G.loc o = some (.map b)
  | some (.siter _ _) => G.loc o = some (.iter b)
  | some (.spare _ hw) => ∃ s, G.hist o hw = some s ∧ s.blk = b
  | _ => False

def isSpare (st : List LObj) (o : Nat) : Prop := ∃ n hw, st[o]? = some (.spare n hw)

structure WR (G : Gh) (st : List LObj) (w : World) : Prop where
  fr : ∀ b o v, G.F b o = some v → w.cell? ⟨b, o, none⟩ = some v
  dom : ∀ o, st.length ≤ o → G.loc o = none ∧ ∀ f, G.hist o f = none
  row : ∀ o es, st[o]? = some (.row es) → ∀ l, G.loc o = some l → ∃ blk size n, l = .row blk size n ∧
    ∃ arr e, w.heap[blk]? = some (.cells arr e (0, 0)) ∧ arr.size = n * size ∧ es.length ≤ n ∧ rowOk G arr es size
  map : ∀ o kv, st[o]? = some (.map kv) → ∀ l, G.loc o = some l → ∃ blk, l = .map blk ∧ ∃ es clock, w.heap[blk]? = some (.map es clock) ∧ mapOk G es kv
  iter : ∀ o s pos, st[o]? = some (.siter s pos) → ∀ l, G.loc o = some l → ∃ blk, l = .iter blk ∧ w.heap[blk]? = some (.stringIter ⟨s.toArray⟩ pos)
  spare : ∀ o size hw, st[o]? = some (.spare size hw) → (∀ f, hw < f → G.hist o f = none) ∧ ∀ s, G.hist o hw = some s →
    s.size = size ∧ (∃ arr e, w.heap[s.blk]? = some (.cells arr e (0, 0)) ∧ arr.size = s.endo + s.nsp * size) ∧ ∀ off, s.endo ≤ off → G.F s.blk off = none
  uniq : ∀ o o' b, Owns G st o b → Owns G st o' b → o = o'
  ownF : ∀ o b, Owns G st o b → ¬ isSpare st o → ∀ off, G.F b off = none
  kind : ∀ o x, st[o]? = some x → (∀ n hw, x ≠ .spare n hw) → ∀ f, G.hist o f = none

structure Ext (G : Gh) (st : List LObj) (w : World) (G' : Gh) (st' : List LObj) (w' : World) : Prop where
  le : G.le G'
  os : w'.os = w.os
  tape : w'.tape = w.tape
  output : w'.output = w.output
  hsz : w.heap.size ≤ w'.heap.size
  unch : ∀ b, b < w.heap.size → (∀ o, ¬ Owns G st o b) → w'.heap[b]? = w.heap[b]?
  own : ∀ o b, Owns G' st' o b → b < w.heap.size → ∃ o', Owns G st o' b
  newF : ∀ b off v, G'.F b off = some v → b < w.heap.size → (∀ o, ¬ Owns G st o b) → G.F b off = some v
  pend : ∀ o, o < st.length → G.loc o = none → (∀ f, G.hist o f = none) → st'[o]? = st[o]? ∧ G'.loc o = none ∧ ∀ f, G'.hist o f = none
  len : st.length ≤ st'.length

/-- The same, without the word on objects that have no place yet. -/
structure Ext0 (G : Gh) (st : List LObj) (w : World) (G' : Gh) (st' : List LObj) (w' : World) : Prop where
  le : G.le G'
  os : w'.os = w.os
  tape : w'.tape = w.tape
  output : w'.output = w.output
  hsz : w.heap.size ≤ w'.heap.size
  unch : ∀ b, b < w.heap.size → (∀ o, ¬ Owns G st o b) → w'.heap[b]? = w.heap[b]?
  own : ∀ o b, Owns G' st' o b → b < w.heap.size → ∃ o', Owns G st o' b
  newF : ∀ b off v, G'.F b off = some v → b < w.heap.size → (∀ o, ¬ Owns G st o b) → G.F b off = some v

theorem Ext.to0 {G G' : Gh} {st st' : List LObj} {w w' : World} (h : Ext G st w G' st' w') : Ext0 G st w G' st' w' :=
  ⟨h.le, h.os, h.tape, h.output, h.hsz, h.unch, h.own, h.newF⟩

theorem Ext0.trans {A B C : Gh} {s1 s2 s3 : List LObj} {w1 w2 w3 : World} (h : Ext0 A s1 w1 B s2 w2) (k : Ext0 B s2 w2 C s3 w3) : Ext0 A s1 w1 C s3 w3 where
  le := h.le.trans k.le
  os := k.os.trans h.os
  tape := k.tape.trans h.tape
  output := k.output.trans h.output
  hsz := Nat.le_trans h.hsz k.hsz
  unch b hb ho := (k.unch b (Nat.lt_of_lt_of_le hb h.hsz) fun o x => let ⟨o', y⟩ := h.own o b x hb; ho o' y).trans (h.unch b hb ho)
  own o b x hb := let ⟨o', y⟩ := k.own o b x (Nat.lt_of_lt_of_le hb h.hsz); h.own o' b y hb
  newF b off v x hb ho := h.newF b off v (k.newF b off v x (Nat.lt_of_lt_of_le hb h.hsz) fun o x => let ⟨o', y⟩ := h.own o b x hb; ho o' y) hb ho

theorem Ext.refl (G : Gh) (st : List LObj) (w : World) : Ext G st w G st w :=
  ⟨.refl G, rfl, rfl, rfl, Nat.le_refl _, fun _ _ _ => rfl, fun o b h _ => ⟨o, h⟩, fun _ _ _ h _ _ => h, fun _ _ h k => ⟨rfl, h, k⟩, Nat.le_refl _⟩

theorem Ext.trans {A B C : Gh} {s1 s2 s3 : List LObj} {w1 w2 w3 : World} (h : Ext A s1 w1 B s2 w2) (k : Ext B s2 w2 C s3 w3) : Ext A s1 w1 C s3 w3 where
  le := h.le.trans k.le
  os := k.os.trans h.os
  tape := k.tape.trans h.tape
  output := k.output.trans h.output
  hsz := Nat.le_trans h.hsz k.hsz
  unch b hb ho := (k.unch b (Nat.lt_of_lt_of_le hb h.hsz) fun o x => let ⟨o', y⟩ := h.own o b x hb; ho o' y).trans (h.unch b hb ho)
  own o b x hb := let ⟨o', y⟩ := k.own o b x (Nat.lt_of_lt_of_le hb h.hsz); h.own o' b y hb
  newF b off v x hb ho := h.newF b off v (k.newF b off v x (Nat.lt_of_lt_of_le hb h.hsz) fun o x => let ⟨o', y⟩ := h.own o b x hb; ho o' y) hb ho
  pend o ho h1 h2 :=
    let ⟨a, b, c⟩ := h.pend o ho h1 h2
    let ⟨d, e, f⟩ := k.pend o (Nat.lt_of_lt_of_le ho h.len) b c
    ⟨d.trans a, e, f⟩
  len := Nat.le_trans h.len k.len

theorem lt_of_heap {w : World} {b : Nat} {o : Obj} (h : w.heap[b]? = some o) : b < w.heap.size := (Array.getElem?_eq_some_iff.1 h).1

theorem WR.fr_lt {G : Gh} {st : List LObj} {w : World} (h : WR G st w) {b o : Nat} {v : Value} (hf : G.F b o = some v) : b < w.heap.size :=
  World.block_lt_of_cell? w ⟨b, o, none⟩ (h.fr _ _ _ hf)

theorem WR.owns_lt {G : Gh} {st : List LObj} {w : World} (h : WR G st w) {o b : Nat} (ho : Owns G st o b) : b < w.heap.size := by
  unfold Owns at ho
  split at ho
  · rename_i es hs
    obtain ⟨size, n, hl⟩ := ho
    obtain ⟨blk, sz, n', e, arr, ty, hb, _⟩ := h.row _ _ hs _ hl
    cases e
    exact lt_of_heap hb
  · rename_i kv hs
    obtain ⟨blk, e, es, c, hb, _⟩ := h.map _ _ hs _ ho
    cases e
    exact lt_of_heap hb
  · rename_i s pos hs
    obtain ⟨blk, e, hb⟩ := h.iter _ _ _ hs _ ho
    cases e
    exact lt_of_heap hb
  · rename_i n hw hs
    obtain ⟨s, hl, rfl⟩ := ho
    obtain ⟨_, ⟨arr, ty, hb, _⟩, _⟩ := (h.spare _ _ _ hs).2 _ hl
    exact lt_of_heap hb
  · exact ho.elim

/-- Only the heap counts. -/
theorem WR.of_heap {G : Gh} {st : List LObj} {w w' : World} (h : WR G st w) (e : w'.heap = w.heap) : WR G st w' where
  fr b o v x := by have := h.fr b o v x; simpa [World.cell?, e] using this
  dom := h.dom
  row o es a l b := by rw [e]; exact h.row o es a l b
  map o es a l b := by rw [e]; exact h.map o es a l b
  iter o s p a l b := by rw [e]; exact h.iter o s p a l b
  spare o n hw a := by rw [e]; exact h.spare o n hw a
  uniq := h.uniq
  ownF := h.ownF
  kind := h.kind

theorem Ext.of_heap {G : Gh} {st : List LObj} {w w' : World} (e : w'.heap = w.heap) (h1 : w'.os = w.os) (h2 : w'.tape = w.tape) (h3 : w'.output = w.output) : Ext G st w G st w' :=
  ⟨.refl G, h1, h2, h3, by rw [e]; exact Nat.le_refl _, fun _ _ _ => by rw [e], fun o b h _ => ⟨o, h⟩, fun _ _ _ h _ _ => h, fun _ _ h k => ⟨rfl, h, k⟩, Nat.le_refl _⟩

theorem rowOk.mono {G G' : Gh} (hG : G.le G') {arr : Array Value} {es : List (List LV)} {size : Nat} (h : rowOk G arr es size) : rowOk G' arr es size :=
  ⟨h.1, fun i j c hc => let ⟨u, a, b, d⟩ := h.2 i j c hc; ⟨u, a, b.mono hG, d⟩⟩
theorem mapOk.mono {G G' : Gh} (hG : G.le G') {es : Array MapEntry} {kv : List (PV × LV)} (h : mapOk G es kv) : mapOk G' es kv :=
  ⟨h.1, fun i k v hc => let ⟨u, a, b, d⟩ := h.2 i k v hc; ⟨u, a, b.mono hG.F, d.mono hG⟩⟩

/-! A new object at the end of the store, in a new block. -/
def Gh.addLoc (G : Gh) (o : Nat) (l : Loc) : Gh := { G with loc := fun q => if q = o then some l else G.loc q }
def Gh.addHist (G : Gh) (t f : Nat) (s : Sp) : Gh := { G with hist := fun q g => if q = t ∧ g = f then some s else G.hist q g }
def Gh.addF (G : Gh) (b : Nat) (h : Nat → Option Value) : Gh := { G with F := fun c o => match G.F c o with | some v => some v | none => if c = b then h o else none }

theorem Gh.le_addLoc {G : Gh} {o : Nat} {l : Loc} (h : G.loc o = none) : G.le (G.addLoc o l) :=
  ⟨fun _ _ _ h => h, fun q k hq => by unfold Gh.addLoc; dsimp only; split
                                      · subst_vars; rw [h] at hq; cases hq
                                      · exact hq, fun _ _ _ h => h⟩
theorem Gh.le_addHist {G : Gh} {t f : Nat} {s : Sp} (h : G.hist t f = none) : G.le (G.addHist t f s) :=
  ⟨fun _ _ _ h => h, fun _ _ h => h, fun q g k hq => by unfold Gh.addHist; dsimp only; split
                                                        · rename_i e; rw [e.1, e.2, h] at hq; cases hq
                                                        · exact hq⟩
theorem Gh.le_addF (G : Gh) (b : Nat) (f : Nat → Option Value) : G.le (G.addF b f) :=
  ⟨fun c o v h => by simp [Gh.addF, h], fun _ _ h => h, fun _ _ _ h => h⟩

theorem Gh.addF_other {G : Gh} {b c o : Nat} {f : Nat → Option Value} (h : c ≠ b) : (G.addF b f).F c o = G.F c o := by
  simp only [Gh.addF, if_neg h]; cases G.F c o <;> rfl

theorem get_snoc_lt {α : Type} {l : List α} {x : α} {i : Nat} (h : i < l.length) : (l ++ [x])[i]? = l[i]? := List.getElem?_append_left h
theorem get_snoc {α : Type} {l : List α} {x : α} : (l ++ [x])[l.length]? = some x := by simp
theorem get_snoc_cases {α : Type} {l : List α} {x y : α} {i : Nat} (h : (l ++ [x])[i]? = some y) : (i < l.length ∧ l[i]? = some y) ∨ (i = l.length ∧ x = y) := by
  rcases Nat.lt_trichotomy i l.length with h' | h' | h'
  · rw [get_snoc_lt h'] at h; exact .inl ⟨h', h⟩
  · subst h'; rw [get_snoc] at h; exact .inr ⟨rfl, Option.some.inj h⟩
  · rw [List.getElem?_eq_none (by simp; omega)] at h; cases h

/-- Below the store's end a new object turns nothing. -/
theorem Owns.snoc {G G' : Gh} {st : List LObj} {x : LObj} {o b : Nat} (h : o < st.length) (hl : G'.loc o = G.loc o) (hh : ∀ f, G'.hist o f = G.hist o f) :
    Owns G' (st ++ [x]) o b ↔ Owns G st o b := by
  unfold Owns
  rw [get_snoc_lt h, hl]
  simp only [hh]

theorem Owns.lt {G : Gh} {st : List LObj} {o b : Nat} (h : Owns G st o b) : o < st.length := by
  rcases Nat.lt_or_ge o st.length with h' | h'
  · exact h'
  · unfold Owns at h; rw [List.getElem?_eq_none h'] at h; exact h.elim

theorem heap_old {w : World} {o : Obj} {b : Nat} (h : b < w.heap.size) : (w.alloc o).heap[b]? = w.heap[b]? := heap_alloc_old w o b h
theorem cell_old {w : World} {o : Obj} {b off : Nat} (h : b < w.heap.size) : (w.alloc o).cell? ⟨b, off, none⟩ = w.cell? ⟨b, off, none⟩ := World.cell?_alloc_lt w o _ h

/-- A new object (row, map, iterator: with a place; nothing new is never-written). -/
theorem WR.newObj {G : Gh} {st : List LObj} {w : World} (h : WR G st w) (x : LObj) (l : Loc) (ob : Obj)
    (hx : (∃ es size n arr e, x = .row es ∧ l = .row w.heap.size size n ∧ ob = .cells arr e ∧ arr.size = n * size ∧ es.length ≤ n ∧ rowOk G arr es size) ∨
      (∃ kv es clock, x = .map kv ∧ l = .map w.heap.size ∧ ob = .map es clock ∧ mapOk G es kv) ∨
      (∃ s pos, x = .siter s pos ∧ l = .iter w.heap.size ∧ ob = .stringIter ⟨s.toArray⟩ pos)) :
    WR (G.addLoc st.length l) (st ++ [x]) (w.alloc ob) ∧ Ext G st w (G.addLoc st.length l) (st ++ [x]) (w.alloc ob) := by
  have hle : G.le (G.addLoc st.length l) := Gh.le_addLoc (h.dom _ (Nat.le_refl _)).1
  have hloc : ∀ o, o < st.length → (G.addLoc st.length l).loc o = G.loc o := fun o ho => by simp [Gh.addLoc, Nat.ne_of_lt ho]
  have hhist : ∀ o f, (G.addLoc st.length l).hist o f = G.hist o f := fun _ _ => rfl
  have hnew : (G.addLoc st.length l).loc st.length = some l := by simp [Gh.addLoc]
  have hns : ¬ isSpare (st ++ [x]) st.length := by
    rintro ⟨n, hw, e⟩
    rw [get_snoc] at e
    rcases hx with ⟨_, _, _, _, _, rfl, _⟩ | ⟨_, _, _, rfl, _⟩ | ⟨_, _, rfl, _⟩ <;> cases e
  have hon : ∀ b, Owns (G.addLoc st.length l) (st ++ [x]) st.length b → b = w.heap.size := by
    intro b hb
    unfold Owns at hb
    rw [get_snoc, hnew] at hb
    rcases hx with ⟨_, _, _, _, _, rfl, rfl, _⟩ | ⟨_, _, _, rfl, rfl, _⟩ | ⟨_, _, rfl, rfl, _⟩ <;> simp at hb
    · exact hb.symm
    · exact hb.symm
    · exact hb.symm
  have hoo : ∀ o b, Owns (G.addLoc st.length l) (st ++ [x]) o b → (o < st.length ∧ Owns G st o b) ∨ (o = st.length ∧ b = w.heap.size) := by
    intro o b ho
    have := Owns.lt ho
    simp at this
    rcases Nat.lt_or_ge o st.length with h' | h'
    · exact .inl ⟨h', (Owns.snoc h' (hloc o h') (fun f => hhist o f)).1 ho⟩
    · obtain rfl : o = st.length := by omega
      exact .inr ⟨rfl, hon b ho⟩
  refine ⟨⟨?_, ?_, ?_, ?_, ?_, ?_, ?_, ?_, fun o y ho hy f => ?_⟩, ⟨hle, rfl, rfl, rfl, by simp, ?_, ?_, ?_, ?_, by simp⟩⟩
  rotate_left 8
  · rw [hhist]
    rcases get_snoc_cases ho with ⟨_, ho⟩ | ⟨rfl, _⟩
    · exact h.kind o y ho hy f
    · exact (h.dom _ (Nat.le_refl _)).2 f
  rotate_left 4
  · intro b o v hv
    rw [cell_old (h.fr_lt hv)]
    exact h.fr b o v hv
  · intro o ho
    simp at ho
    exact ⟨by rw [show (G.addLoc st.length l).loc o = G.loc o by simp [Gh.addLoc, show o ≠ st.length by omega]]; exact (h.dom o (by omega)).1, (h.dom o (by omega)).2⟩
  · intro o es ho l' hl'
    rcases get_snoc_cases ho with ⟨h', ho⟩ | ⟨rfl, rfl⟩
    · rw [hloc o h'] at hl'
      obtain ⟨blk, size, n, e, arr, ty, hb, r⟩ := h.row o es ho l' hl'
      exact ⟨blk, size, n, e, arr, ty, by rw [heap_old (lt_of_heap hb)]; exact hb, r.1, r.2.1, r.2.2.mono hle⟩
    · rw [hnew] at hl'
      cases hl'
      rcases hx with ⟨es', size, n, arr, e, hx, rfl, rfl, h1, h2, h3⟩ | ⟨_, _, _, hx, _⟩ | ⟨_, _, hx, _⟩
      · cases hx
        exact ⟨_, size, n, rfl, arr, e, heap_alloc_new w _, h1, h2, h3.mono hle⟩
      · cases hx
      · cases hx
  · intro o kv ho l' hl'
    rcases get_snoc_cases ho with ⟨h', ho⟩ | ⟨rfl, rfl⟩
    · rw [hloc o h'] at hl'
      obtain ⟨blk, e, es, c, hb, r⟩ := h.map o kv ho l' hl'
      exact ⟨blk, e, es, c, by rw [heap_old (lt_of_heap hb)]; exact hb, r.mono hle⟩
    · rw [hnew] at hl'
      cases hl'
      rcases hx with ⟨_, _, _, _, _, hx, _⟩ | ⟨kv', es, c, hx, rfl, rfl, h3⟩ | ⟨_, _, hx, _⟩
      · cases hx
      · cases hx
        exact ⟨_, rfl, es, c, heap_alloc_new w _, h3.mono hle⟩
      · cases hx
  · intro o s pos ho l' hl'
    rcases get_snoc_cases ho with ⟨h', ho⟩ | ⟨rfl, rfl⟩
    · rw [hloc o h'] at hl'
      obtain ⟨blk, e, hb⟩ := h.iter o s pos ho l' hl'
      exact ⟨blk, e, by rw [heap_old (lt_of_heap hb)]; exact hb⟩
    · rw [hnew] at hl'
      cases hl'
      rcases hx with ⟨_, _, _, _, _, hx, _⟩ | ⟨_, _, _, hx, _⟩ | ⟨_, _, hx, rfl, rfl⟩
      · cases hx
      · cases hx
      · cases hx
        exact ⟨_, rfl, heap_alloc_new w _⟩
  · intro o n hw ho
    rcases get_snoc_cases ho with ⟨h', ho⟩ | ⟨rfl, rfl⟩
    · obtain ⟨h1, h2⟩ := h.spare o n hw ho
      refine ⟨h1, fun s hs => ?_⟩
      obtain ⟨a, ⟨arr, e, hb, hz⟩, hf⟩ := h2 s hs
      exact ⟨a, ⟨arr, e, by rw [heap_old (lt_of_heap hb)]; exact hb, hz⟩, hf⟩
    · exact (hns ⟨n, hw, ho⟩).elim
  · intro o o' b ho ho'
    rcases hoo o b ho with ⟨h1, h2⟩ | ⟨rfl, rfl⟩ <;> rcases hoo o' _ ho' with ⟨h3, h4⟩ | ⟨rfl, h5⟩
    · exact h.uniq o o' b h2 h4
    · have := h.owns_lt h2; omega
    · have := h.owns_lt h4; omega
    · rfl
  · intro o b ho hn off
    rcases hoo o b ho with ⟨h1, h2⟩ | ⟨rfl, rfl⟩
    · exact h.ownF o b h2 (fun ⟨n, hw, e⟩ => hn ⟨n, hw, by rw [get_snoc_lt h1]; exact e⟩) off
    · cases hf : (G.addLoc st.length l).F w.heap.size off with
      | none => rfl
      | some v => have := h.fr_lt (show G.F w.heap.size off = some v from hf); omega
  · intro b hb _; exact heap_old hb
  · intro o b ho hb
    rcases hoo o b ho with ⟨h1, h2⟩ | ⟨rfl, rfl⟩
    · exact ⟨o, h2⟩
    · omega
  · intro b off v hv _ _; exact hv
  · intro o ho h1 h2
    exact ⟨get_snoc_lt ho, by rw [hloc o ho]; exact h1, h2⟩

/-- The cells that a literal, or an append that grew, laid: from now on never written; the room behind them is a new tag's. -/
theorem WR.newSpare {G : Gh} {st : List LObj} {w : World} (h : WR G st w) (arr : Array Value) (e : TypeId) (size k nsp hw : Nat)
    (hz : arr.size = k + nsp * size) :
    WR ((G.addF w.heap.size fun o => if o < k then arr[o]? else none).addHist st.length hw ⟨w.heap.size, k, nsp, size⟩) (st ++ [.spare size hw]) (w.alloc (.cells arr e)) ∧
    Ext G st w ((G.addF w.heap.size fun o => if o < k then arr[o]? else none).addHist st.length hw ⟨w.heap.size, k, nsp, size⟩) (st ++ [.spare size hw]) (w.alloc (.cells arr e)) := by
  generalize hG1 : (G.addF w.heap.size fun o => if o < k then arr[o]? else none) = G1
  have hle1 : G.le G1 := hG1 ▸ Gh.le_addF ..
  have hh1 : ∀ o f, G1.hist o f = G.hist o f := fun _ _ => by rw [← hG1]; rfl
  have hl1 : ∀ o, G1.loc o = G.loc o := fun _ => by rw [← hG1]; rfl
  have hF1 : ∀ b off, b ≠ w.heap.size → G1.F b off = G.F b off := fun b off hb => by rw [← hG1]; exact Gh.addF_other hb
  have hF2 : ∀ off v, G1.F w.heap.size off = some v → off < k ∧ arr[off]? = some v := by
    intro off v hv
    rw [← hG1] at hv
    simp only [Gh.addF] at hv
    split at hv
    · rename_i u hu; have := h.fr_lt hu; omega
    · rw [if_pos trivial] at hv; split at hv
      · exact ⟨‹_›, hv⟩
      · cases hv
  have hle : G1.le (G1.addHist st.length hw ⟨w.heap.size, k, nsp, size⟩) := Gh.le_addHist (by rw [hh1]; exact (h.dom _ (Nat.le_refl _)).2 _)
  have hhist : ∀ o f, o < st.length → (G1.addHist st.length hw ⟨w.heap.size, k, nsp, size⟩).hist o f = G.hist o f := fun o f ho => by
    simp only [Gh.addHist, show ¬ (o = st.length ∧ f = hw) from fun e => by omega, if_false, hh1]
  have hoo : ∀ o b, Owns (G1.addHist st.length hw ⟨w.heap.size, k, nsp, size⟩) (st ++ [.spare size hw]) o b → (o < st.length ∧ Owns G st o b) ∨ (o = st.length ∧ b = w.heap.size) := by
    intro o b ho
    have := Owns.lt ho
    simp at this
    rcases Nat.lt_or_ge o st.length with h' | h'
    · exact .inl ⟨h', (Owns.snoc (G' := G1.addHist st.length hw ⟨w.heap.size, k, nsp, size⟩) h' (hl1 o) (fun f => hhist o f h')).1 ho⟩
    · obtain rfl : o = st.length := by omega
      refine .inr ⟨rfl, ?_⟩
      unfold Owns at ho
      rw [get_snoc] at ho
      obtain ⟨s, hs, rfl⟩ := ho
      simp [Gh.addHist] at hs
      rw [← hs]
  refine ⟨⟨?_, ?_, ?_, ?_, ?_, ?_, ?_, ?_, fun o y ho hy f => ?_⟩, ⟨hle1.trans hle, rfl, rfl, rfl, by simp, ?_, ?_, ?_, ?_, by simp⟩⟩
  rotate_left 8
  · rcases get_snoc_cases ho with ⟨h', ho⟩ | ⟨_, e⟩
    · rw [hhist o f h']; exact h.kind o y ho hy f
    · exact (hy _ _ e.symm).elim
  rotate_left 4
  · intro b o v hv
    have hv : G1.F b o = some v := hv
    by_cases hb : b = w.heap.size
    · subst hb
      rw [World.cell?_alloc_new]
      exact (hF2 o v hv).2
    · rw [hF1 b o hb] at hv
      rw [cell_old (h.fr_lt hv)]
      exact h.fr b o v hv
  · intro o ho
    simp at ho
    refine ⟨by show G1.loc o = none; rw [hl1]; exact (h.dom o (by omega)).1, fun f => ?_⟩
    simp only [Gh.addHist, show ¬ (o = st.length ∧ f = hw) from fun e => by omega, if_false, hh1]
    exact (h.dom o (by omega)).2 f
  · intro o es ho l' hl'
    have hl' : G1.loc o = some l' := hl'
    rcases get_snoc_cases ho with ⟨h', ho⟩ | ⟨rfl, e⟩
    · rw [hl1] at hl'
      obtain ⟨blk, size, n, e, arr, ty, hb, r⟩ := h.row o es ho l' hl'
      exact ⟨blk, size, n, e, arr, ty, by rw [heap_old (lt_of_heap hb)]; exact hb, r.1, r.2.1, r.2.2.mono (hle1.trans hle)⟩
    · cases e
  · intro o kv ho l' hl'
    have hl' : G1.loc o = some l' := hl'
    rcases get_snoc_cases ho with ⟨h', ho⟩ | ⟨rfl, e⟩
    · rw [hl1] at hl'
      obtain ⟨blk, e, es, c, hb, r⟩ := h.map o kv ho l' hl'
      exact ⟨blk, e, es, c, by rw [heap_old (lt_of_heap hb)]; exact hb, r.mono (hle1.trans hle)⟩
    · cases e
  · intro o s pos ho l' hl'
    have hl' : G1.loc o = some l' := hl'
    rcases get_snoc_cases ho with ⟨h', ho⟩ | ⟨rfl, e⟩
    · rw [hl1] at hl'
      obtain ⟨blk, e, hb⟩ := h.iter o s pos ho l' hl'
      exact ⟨blk, e, by rw [heap_old (lt_of_heap hb)]; exact hb⟩
    · cases e
  · intro o n hw' ho
    rcases get_snoc_cases ho with ⟨h', ho⟩ | ⟨rfl, e⟩
    · obtain ⟨h1, h2⟩ := h.spare o n hw' ho
      refine ⟨fun f hf => by rw [hhist o f h']; exact h1 f hf, fun s hs => ?_⟩
      rw [hhist o _ h'] at hs
      obtain ⟨a, ⟨arr', e, hb, hz'⟩, hf⟩ := h2 s hs
      have hlt := lt_of_heap hb
      exact ⟨a, ⟨arr', e, by rw [heap_old hlt]; exact hb, hz'⟩, fun off ho => by show G1.F s.blk off = none; rw [hF1 _ _ (by omega)]; exact hf off ho⟩
    · cases e
      refine ⟨fun f hf => ?_, fun s hs => ?_⟩
      · simp only [Gh.addHist]
        rw [if_neg (by omega), hh1]
        exact (h.dom _ (Nat.le_refl _)).2 f
      · simp [Gh.addHist] at hs
        subst hs
        refine ⟨rfl, ⟨arr, _, heap_alloc_new w _, hz⟩, fun off ho => ?_⟩
        show G1.F w.heap.size off = none
        cases hf : G1.F w.heap.size off with
        | none => rfl
        | some v => have := (hF2 off v hf).1; simp at ho; omega
  · intro o o' b ho ho'
    rcases hoo o b ho with ⟨h1, h2⟩ | ⟨rfl, rfl⟩ <;> rcases hoo o' _ ho' with ⟨h3, h4⟩ | ⟨rfl, h5⟩
    · exact h.uniq o o' b h2 h4
    · have := h.owns_lt h2; omega
    · have := h.owns_lt h4; omega
    · rfl
  · intro o b ho hn off
    rcases hoo o b ho with ⟨h1, h2⟩ | ⟨rfl, rfl⟩
    · show G1.F b off = none
      rw [hF1 _ _ (by have := h.owns_lt h2; omega)]
      exact h.ownF o b h2 (fun ⟨n, hw, e⟩ => hn ⟨n, hw, by rw [get_snoc_lt h1]; exact e⟩) off
    · exact (hn ⟨size, hw, get_snoc⟩).elim
  · intro b hb _; exact heap_old hb
  · intro o b ho hb
    rcases hoo o b ho with ⟨h1, h2⟩ | ⟨rfl, rfl⟩
    · exact ⟨o, h2⟩
    · omega
  · intro b off v hv hb _
    have hv : G1.F b off = some v := hv
    rwa [hF1 _ _ (by omega)] at hv
  · intro o ho h1 h2
    exact ⟨get_snoc_lt ho, by show G1.loc o = none; rw [hl1]; exact h1, fun f => by rw [hhist o f ho]; exact h2 f⟩

/-- A literal's cells: never written. -/
theorem WR.newF {G : Gh} {st : List LObj} {w : World} (h : WR G st w) (arr : Array Value) (e : TypeId) (fz : Nat × Nat) :
    WR (G.addF w.heap.size fun o => arr[o]?) st (w.alloc (.cells arr e fz)) ∧
    Ext G st w (G.addF w.heap.size fun o => arr[o]?) st (w.alloc (.cells arr e fz)) := by
  generalize hG1 : (G.addF w.heap.size fun o => arr[o]?) = G1
  have hle : G.le G1 := hG1 ▸ Gh.le_addF ..
  have hh1 : ∀ o f, G1.hist o f = G.hist o f := fun _ _ => by rw [← hG1]; rfl
  have hl1 : ∀ o, G1.loc o = G.loc o := fun _ => by rw [← hG1]; rfl
  have hF1 : ∀ b off, b ≠ w.heap.size → G1.F b off = G.F b off := fun b off hb => by rw [← hG1]; exact Gh.addF_other hb
  have hF2 : ∀ off v, G1.F w.heap.size off = some v → arr[off]? = some v := by
    intro off v hv
    rw [← hG1] at hv
    simp only [Gh.addF] at hv
    split at hv
    · rename_i u hu; have := h.fr_lt hu; omega
    · rw [if_pos trivial] at hv; exact hv
  have hoo : ∀ o b, Owns G1 st o b ↔ Owns G st o b := by intro o b; unfold Owns; simp only [hh1, hl1]
  refine ⟨⟨?_, ?_, ?_, ?_, ?_, ?_, ?_, ?_, fun o y ho hy f => by rw [hh1]; exact h.kind o y ho hy f⟩, ⟨hle, rfl, rfl, rfl, by simp, ?_, ?_, ?_, ?_, Nat.le_refl _⟩⟩
  · intro b o v hv
    by_cases hb : b = w.heap.size
    · subst hb
      have : (w.alloc (.cells arr e fz)).cell? ⟨w.heap.size, o, none⟩ = arr[o]? := by unfold World.alloc World.cell?; simp
      rw [this]
      exact hF2 o v hv
    · rw [hF1 b o hb] at hv
      rw [cell_old (h.fr_lt hv)]
      exact h.fr b o v hv
  · intro o ho
    exact ⟨by rw [hl1]; exact (h.dom o ho).1, fun f => by rw [hh1]; exact (h.dom o ho).2 f⟩
  · intro o es ho l' hl'
    rw [hl1] at hl'
    obtain ⟨blk, size, n, e, arr, ty, hb, r⟩ := h.row o es ho l' hl'
    exact ⟨blk, size, n, e, arr, ty, by rw [heap_old (lt_of_heap hb)]; exact hb, r.1, r.2.1, r.2.2.mono hle⟩
  · intro o kv ho l' hl'
    rw [hl1] at hl'
    obtain ⟨blk, e, es, c, hb, r⟩ := h.map o kv ho l' hl'
    exact ⟨blk, e, es, c, by rw [heap_old (lt_of_heap hb)]; exact hb, r.mono hle⟩
  · intro o s pos ho l' hl'
    rw [hl1] at hl'
    obtain ⟨blk, e, hb⟩ := h.iter o s pos ho l' hl'
    exact ⟨blk, e, by rw [heap_old (lt_of_heap hb)]; exact hb⟩
  · intro o n hw' ho
    obtain ⟨h1, h2⟩ := h.spare o n hw' ho
    refine ⟨fun f hf => by rw [hh1]; exact h1 f hf, fun s hs => ?_⟩
    rw [hh1] at hs
    obtain ⟨a, ⟨arr', e, hb, hz'⟩, hf⟩ := h2 s hs
    have hlt := lt_of_heap hb
    exact ⟨a, ⟨arr', e, by rw [heap_old hlt]; exact hb, hz'⟩, fun off ho => by rw [hF1 _ _ (by omega)]; exact hf off ho⟩
  · intro o o' b ho ho'
    exact h.uniq o o' b ((hoo o b).1 ho) ((hoo o' b).1 ho')
  · intro o b ho hn off
    have := (hoo o b).1 ho
    rw [hF1 _ _ (by have := h.owns_lt this; omega)]
    exact h.ownF o b this hn off
  · intro b hb _; exact heap_old hb
  · intro o b ho hb; exact ⟨o, (hoo o b).1 ho⟩
  · intro b off v hv hb _; rwa [hF1 _ _ (by omega)] at hv
  · intro o ho h1 h2
    exact ⟨rfl, by rw [hl1]; exact h1, fun f => by rw [hh1]; exact h2 f⟩

end Go.LS

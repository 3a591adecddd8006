/- How a machine's memory and a store change together: an object is written; a tag's array grows. -/
import Derived.Test.YthiilhepneddpaaLsWorld
set_option linter.unusedVariables false
namespace Go.LS

theorem get_set_cases {α : Type} {l : List α} {o i : Nat} {x y : α} (h : (l.set o x)[i]? = some y) : (i ≠ o ∧ l[i]? = some y) ∨ (i = o ∧ o < l.length ∧ x = y) := by
  by_cases e : i = o
  · subst e
    by_cases hl : i < l.length
    · rw [List.getElem?_set_self hl] at h; exact .inr ⟨rfl, hl, Option.some.inj h⟩
    · rw [List.getElem?_eq_none (by simp; omega)] at h; cases h
  · rw [List.getElem?_set_ne (Ne.symm e)] at h; exact .inl ⟨e, h⟩

/-- Other blocks are as they were. -/
structure SameBut (b : Nat) (w w' : World) : Prop where
  size : w'.heap.size = w.heap.size
  other : ∀ c, c ≠ b → w'.heap[c]? = w.heap[c]?
  os : w'.os = w.os
  tape : w'.tape = w.tape
  output : w'.output = w.output

/-- What may take an object's place. -/
def Fits (G : Gh) (x x' : LObj) (l : Loc) (b : Nat) (ob : Obj) : Prop :=
  (∃ es es' size n arr e, x = .row es ∧ x' = .row es' ∧ l = .row b size n ∧ ob = .cells arr e (0, 0) ∧ arr.size = n * size ∧ es'.length ≤ n ∧ rowOk G arr es' size) ∨
  (∃ kv kv' es clock, x = .map kv ∧ x' = .map kv' ∧ l = .map b ∧ ob = .map es clock ∧ mapOk G es kv') ∨
  (∃ s p s' p', x = .siter s p ∧ x' = .siter s' p' ∧ l = .iter b ∧ ob = .stringIter ⟨s'.toArray⟩ p')

theorem WR.setObj {G : Gh} {st : List LObj} {w w' : World} (h : WR G st w) {o b : Nat} {x x' : LObj} {l : Loc} {ob : Obj} (hs : st[o]? = some x) (hl : G.loc o = some l)
    (hx : Fits G x x' l b ob) (hw : SameBut b w w') (hb : w'.heap[b]? = some ob) : WR G (st.set o x') w' ∧ Ext G st w G (st.set o x') w' := by
  have holt : o < st.length := (List.getElem?_eq_some_iff.1 hs).1
  have hself : (st.set o x')[o]? = some x' := List.getElem?_set_self holt
  have hns : ¬ isSpare st o := by
    rintro ⟨n, k, e⟩
    rw [hs] at e
    rcases hx with ⟨_, _, _, _, _, _, rfl, _⟩ | ⟨_, _, _, _, rfl, _⟩ | ⟨_, _, _, _, rfl, _⟩ <;> cases e
  have how : Owns G st o b := by
    unfold Owns; rw [hs]
    rcases hx with ⟨_, _, size, n, _, _, rfl, _, rfl, _⟩ | ⟨_, _, _, _, rfl, _, rfl, _⟩ | ⟨_, _, _, _, rfl, _, rfl, _⟩
    · exact ⟨size, n, hl⟩
    · exact hl
    · exact hl
  have hoo : ∀ o' c, Owns G (st.set o x') o' c ↔ Owns G st o' c := by
    intro o' c
    by_cases e : o' = o
    · subst e
      unfold Owns
      rw [hself, hs]
      rcases hx with ⟨_, _, _, _, _, _, rfl, rfl, _⟩ | ⟨_, _, _, _, rfl, rfl, _⟩ | ⟨_, _, _, _, rfl, rfl, _⟩ <;> rfl
    · unfold Owns
      rw [List.getElem?_set_ne (Ne.symm e)]
  have hF : ∀ off, G.F b off = none := h.ownF o b how hns
  have hne : ∀ o' c, o' ≠ o → Owns G st o' c → c ≠ b := fun o' c e hc hcb => e (h.uniq o' o c hc (hcb ▸ how))
  refine ⟨⟨?_, ?_, ?_, ?_, ?_, ?_, ?_, ?_, fun o' y ho hy f => ?_⟩, ⟨.refl G, hw.os, hw.tape, hw.output, by rw [hw.size]; exact Nat.le_refl _, ?_, ?_, ?_, ?_, by simp⟩⟩
  rotate_left 8
  · rcases get_set_cases ho with ⟨_, ho⟩ | ⟨rfl, _, _⟩
    · exact h.kind o' y ho hy f
    · exact h.kind _ x hs (fun n k e => hns ⟨n, k, by rw [hs, e]⟩) f
  rotate_left 4
  · intro c off v hv
    have hc : c ≠ b := fun e => by subst e; rw [hF off] at hv; cases hv
    have := h.fr c off v hv
    unfold World.cell? at this ⊢
    rw [show w'.heap[c]? = w.heap[c]? from hw.other c hc]
    exact this
  · intro o' ho'; simp at ho'; exact h.dom o' ho'
  · intro o' es ho' l' hl'
    rcases get_set_cases ho' with ⟨e, ho'⟩ | ⟨rfl, _, e⟩
    · obtain ⟨blk, size, n, e', arr, ty, hbb, r⟩ := h.row o' es ho' l' hl'
      have hc := hne o' blk e (by unfold Owns; rw [ho']; exact ⟨size, n, e' ▸ hl'⟩)
      exact ⟨blk, size, n, e', arr, ty, by rw [hw.other _ hc]; exact hbb, r⟩
    · rw [hl] at hl'; cases hl'
      rcases hx with ⟨es0, es', size, n, arr, ty, _, rfl, rfl, rfl, h1, h2, h3⟩ | ⟨_, _, _, _, _, rfl, _⟩ | ⟨_, _, _, _, _, rfl, _⟩
      · cases e; exact ⟨b, size, n, rfl, arr, ty, hb, h1, h2, h3⟩
      · cases e
      · cases e
  · intro o' kv ho' l' hl'
    rcases get_set_cases ho' with ⟨e, ho'⟩ | ⟨rfl, _, e⟩
    · obtain ⟨blk, e', es, c, hbb, r⟩ := h.map o' kv ho' l' hl'
      have hc := hne o' blk e (by unfold Owns; rw [ho']; exact e' ▸ hl')
      exact ⟨blk, e', es, c, by rw [hw.other _ hc]; exact hbb, r⟩
    · rw [hl] at hl'; cases hl'
      rcases hx with ⟨_, _, _, _, _, _, _, rfl, _⟩ | ⟨kv0, kv', es, c, _, rfl, rfl, rfl, h3⟩ | ⟨_, _, _, _, _, rfl, _⟩
      · cases e
      · cases e; exact ⟨b, rfl, es, c, hb, h3⟩
      · cases e
  · intro o' s p ho' l' hl'
    rcases get_set_cases ho' with ⟨e, ho'⟩ | ⟨rfl, _, e⟩
    · obtain ⟨blk, e', hbb⟩ := h.iter o' s p ho' l' hl'
      have hc := hne o' blk e (by unfold Owns; rw [ho']; exact e' ▸ hl')
      exact ⟨blk, e', by rw [hw.other _ hc]; exact hbb⟩
    · rw [hl] at hl'; cases hl'
      rcases hx with ⟨_, _, _, _, _, _, _, rfl, _⟩ | ⟨_, _, _, _, _, rfl, _⟩ | ⟨s0, p0, s', p', _, rfl, rfl, rfl⟩
      · cases e
      · cases e
      · cases e; exact ⟨b, rfl, hb⟩
  · intro o' n k ho'
    rcases get_set_cases ho' with ⟨e, ho'⟩ | ⟨rfl, _, e⟩
    · obtain ⟨h1, h2⟩ := h.spare o' n k ho'
      refine ⟨h1, fun s hs' => ?_⟩
      obtain ⟨a, ⟨arr, ty, hbb, r⟩, hf⟩ := h2 s hs'
      have hc := hne o' s.blk e (by unfold Owns; rw [ho']; exact ⟨s, hs', rfl⟩)
      exact ⟨a, ⟨arr, ty, by rw [hw.other _ hc]; exact hbb, r⟩, hf⟩
    · exfalso; subst e
      rcases hx with ⟨_, _, _, _, _, _, _, e, _⟩ | ⟨_, _, _, _, _, e, _⟩ | ⟨_, _, _, _, _, e, _⟩ <;> cases e
  · intro o1 o2 c h1 h2; exact h.uniq o1 o2 c ((hoo _ _).1 h1) ((hoo _ _).1 h2)
  · intro o' c h1 h2 off
    refine h.ownF o' c ((hoo _ _).1 h1) (fun ⟨n, k, e⟩ => ?_) off
    by_cases e' : o' = o
    · subst e'; exact hns ⟨n, k, e⟩
    · exact h2 ⟨n, k, by rw [List.getElem?_set_ne (Ne.symm e')]; exact e⟩
  · intro c hc ho'
    exact hw.other c fun e => ho' o (e ▸ how)
  · intro o' c h1 _; exact ⟨o', (hoo _ _).1 h1⟩
  · intro _ _ _ hv _ _; exact hv
  · intro o' ho' h1 h2
    refine ⟨?_, h1, h2⟩
    rw [List.getElem?_set_ne]
    intro e; subst e; rw [hl] at h1; cases h1

/-- A tag's array has grown: in its place, or in a new block. -/
theorem WR.grow {G : Gh} {st : List LObj} {w w' : World} (h : WR G st w) {t size hw k : Nat} (hs : st[t]? = some (.spare size hw)) (s s' : Sp) (hh : G.hist t hw = some s) (hk : 0 < k)
    (arr' : Array Value) (e : TypeId) (f : Nat → Option Value)
    (hos : w'.os = w.os) (htp : w'.tape = w.tape) (hout : w'.output = w.output)
    (hsz : w.heap.size ≤ w'.heap.size) (hother : ∀ c, c < w.heap.size → c ≠ s.blk → w'.heap[c]? = w.heap[c]?)
    (hb : w'.heap[s'.blk]? = some (.cells arr' e (0, 0))) (hz : s'.size = size) (hzz : arr'.size = s'.endo + s'.nsp * size)
    (hf : ∀ off v, f off = some v → off < s'.endo ∧ arr'[off]? = some v)
    (hcase : (s'.blk = s.blk ∧ s.endo ≤ s'.endo ∧ ∀ off v, off < s.endo → w.cell? ⟨s.blk, off, none⟩ = some v → arr'[off]? = some v) ∨
      (w.heap.size ≤ s'.blk ∧ w'.heap[s.blk]? = w.heap[s.blk]?)) :
    WR ((G.addF s'.blk f).addHist t (hw + k) s') (st.set t (.spare size (hw + k))) w' ∧
    Ext G st w ((G.addF s'.blk f).addHist t (hw + k) s') (st.set t (.spare size (hw + k))) w' := by
  have htlt : t < st.length := (List.getElem?_eq_some_iff.1 hs).1
  obtain ⟨hgt, hsp⟩ := h.spare t size hw hs
  obtain ⟨hss, ⟨arr, ty, hbb, hbz⟩, hFs⟩ := hsp s hh
  have hblt := lt_of_heap hbb
  have how : Owns G st t s.blk := by unfold Owns; rw [hs]; exact ⟨s, hh, rfl⟩
  generalize hG1 : G.addF s'.blk f = G1
  have hle1 : G.le G1 := hG1 ▸ Gh.le_addF ..
  have hh1 : ∀ o f, G1.hist o f = G.hist o f := fun _ _ => by rw [← hG1]; rfl
  have hl1 : ∀ o, G1.loc o = G.loc o := fun _ => by rw [← hG1]; rfl
  have hF1 : ∀ b off, b ≠ s'.blk → G1.F b off = G.F b off := fun b off hb => by rw [← hG1]; exact Gh.addF_other hb
  have hF2 : ∀ off v, G1.F s'.blk off = some v → G.F s'.blk off = some v ∨ f off = some v := by
    intro off v hv
    rw [← hG1] at hv
    simp only [Gh.addF] at hv
    split at hv
    · rename_i u hu; exact .inl (hu.trans hv)
    · exact .inr (by simpa using hv)
  have hle : G1.le (G1.addHist t (hw + k) s') := Gh.le_addHist (by rw [hh1]; exact hgt _ (by omega))
  have hhist : ∀ o g, o ≠ t → (G1.addHist t (hw + k) s').hist o g = G.hist o g := fun o g ho => by
    simp only [Gh.addHist]; rw [if_neg (fun e => ho e.1), hh1]
  have hnew : (G1.addHist t (hw + k) s').hist t (hw + k) = some s' := by simp [Gh.addHist]
  have hself : (st.set t (.spare size (hw + k)))[t]? = some (.spare size (hw + k)) := List.getElem?_set_self htlt
  have hother' : ∀ o c, o ≠ t → Owns G st o c → c < w.heap.size ∧ c ≠ s.blk ∧ c ≠ s'.blk := by
    intro o c ho hc
    have h1 := h.owns_lt hc
    have h2 : c ≠ s.blk := fun e => ho (h.uniq o t c hc (e ▸ how))
    refine ⟨h1, h2, ?_⟩
    rcases hcase with ⟨e, _⟩ | ⟨e, _⟩
    · rw [e]; exact h2
    · omega
  have hoo : ∀ o c, Owns (G1.addHist t (hw + k) s') (st.set t (.spare size (hw + k))) o c → (o ≠ t ∧ Owns G st o c) ∨ (o = t ∧ c = s'.blk) := by
    intro o c ho
    by_cases e : o = t
    · subst e
      refine .inr ⟨rfl, ?_⟩
      unfold Owns at ho
      rw [hself] at ho
      obtain ⟨q, hq, rfl⟩ := ho
      rw [hnew] at hq; cases hq; rfl
    · refine .inl ⟨e, ?_⟩
      unfold Owns at ho ⊢
      rw [List.getElem?_set_ne (Ne.symm e)] at ho
      have e1 : (G1.addHist t (hw + k) s').loc o = G.loc o := hl1 o
      rw [e1] at ho
      simp only [hhist o _ e] at ho
      exact ho
  have hFend : ∀ off, s'.endo ≤ off → G1.F s'.blk off = none := by
    intro off hoff
    cases hv : G1.F s'.blk off with
    | none => rfl
    | some v =>
      rcases hF2 off v hv with hv | hv
      · rcases hcase with ⟨e, h1, _⟩ | ⟨e, _⟩
        · rw [e] at hv; rw [hFs off (by omega)] at hv; cases hv
        · have := h.fr_lt hv; omega
      · have := (hf off v hv).1; omega
  refine ⟨⟨?_, ?_, ?_, ?_, ?_, ?_, ?_, ?_, fun o y ho hy g => ?_⟩, ⟨hle1.trans hle, hos, htp, hout, hsz, ?_, ?_, ?_, ?_, by simp⟩⟩
  rotate_left 8
  · rcases get_set_cases ho with ⟨e, ho⟩ | ⟨rfl, _, e⟩
    · rw [hhist o g e]; exact h.kind o y ho hy g
    · exact (hy _ _ e.symm).elim
  rotate_left 4
  · intro b off v hv
    have hv : G1.F b off = some v := hv
    by_cases hbs : b = s'.blk
    · subst hbs
      rw [cell_of_row w' s'.blk off arr' e (0, 0) hb]
      rcases hF2 off v hv with hv | hv
      · rcases hcase with ⟨e, h1, h2⟩ | ⟨e, _⟩
        · rw [e] at hv
          refine h2 off v ?_ (h.fr _ _ _ hv)
          rcases Nat.lt_or_ge off s.endo with h' | h'
          · exact h'
          · rw [hFs off h'] at hv; cases hv
        · have := h.fr_lt hv; omega
      · exact (hf off v hv).2
    · rw [hF1 b off hbs] at hv
      have hlt := h.fr_lt hv
      have hc := h.fr b off v hv
      unfold World.cell? at hc ⊢
      by_cases hbb' : b = s.blk
      · rcases hcase with ⟨e, _⟩ | ⟨_, e⟩
        · omega
        · rw [show w'.heap[b]? = w.heap[b]? by rw [hbb']; exact e]; exact hc
      · rw [show w'.heap[b]? = w.heap[b]? from hother b hlt hbb']; exact hc
  · intro o ho
    simp at ho
    exact ⟨by show G1.loc o = none; rw [hl1]; exact (h.dom o ho).1, fun g => by rw [hhist o g (by omega)]; exact (h.dom o ho).2 g⟩
  · intro o es ho l' hl'
    have hl' : G1.loc o = some l' := hl'
    rw [hl1] at hl'
    rcases get_set_cases ho with ⟨e, ho⟩ | ⟨rfl, _, e⟩
    · obtain ⟨blk, sz, n, e', arr2, ty2, hb2, r⟩ := h.row o es ho l' hl'
      have hc := hother' o blk e (by unfold Owns; rw [ho]; exact ⟨sz, n, e' ▸ hl'⟩)
      exact ⟨blk, sz, n, e', arr2, ty2, by rw [hother _ hc.1 hc.2.1]; exact hb2, r.1, r.2.1, r.2.2.mono (hle1.trans hle)⟩
    · cases e
  · intro o kv ho l' hl'
    have hl' : G1.loc o = some l' := hl'
    rw [hl1] at hl'
    rcases get_set_cases ho with ⟨e, ho⟩ | ⟨rfl, _, e⟩
    · obtain ⟨blk, e', es, c, hb2, r⟩ := h.map o kv ho l' hl'
      have hc := hother' o blk e (by unfold Owns; rw [ho]; exact e' ▸ hl')
      exact ⟨blk, e', es, c, by rw [hother _ hc.1 hc.2.1]; exact hb2, r.mono (hle1.trans hle)⟩
    · cases e
  · intro o q p ho l' hl'
    have hl' : G1.loc o = some l' := hl'
    rw [hl1] at hl'
    rcases get_set_cases ho with ⟨e, ho⟩ | ⟨rfl, _, e⟩
    · obtain ⟨blk, e', hb2⟩ := h.iter o q p ho l' hl'
      have hc := hother' o blk e (by unfold Owns; rw [ho]; exact e' ▸ hl')
      exact ⟨blk, e', by rw [hother _ hc.1 hc.2.1]; exact hb2⟩
    · cases e
  · intro o n g ho
    rcases get_set_cases ho with ⟨e, ho⟩ | ⟨rfl, _, e⟩
    · obtain ⟨h1, h2⟩ := h.spare o n g ho
      refine ⟨fun f hf => by rw [hhist o f e]; exact h1 f hf, fun q hq => ?_⟩
      rw [hhist o _ e] at hq
      obtain ⟨a, ⟨arr2, ty2, hb2, r⟩, hf2⟩ := h2 q hq
      have hc := hother' o q.blk e (by unfold Owns; rw [ho]; exact ⟨q, hq, rfl⟩)
      exact ⟨a, ⟨arr2, ty2, by rw [hother _ hc.1 hc.2.1]; exact hb2, r⟩, fun off hoff => by show G1.F q.blk off = none; rw [hF1 _ _ hc.2.2]; exact hf2 off hoff⟩
    · cases e
      refine ⟨fun g hg => ?_, fun q hq => ?_⟩
      · simp only [Gh.addHist]
        rw [if_neg (fun e => by omega), hh1]
        exact hgt g (by omega)
      · rw [hnew] at hq; cases hq
        exact ⟨hz, ⟨arr', e, hb, hzz⟩, hFend⟩
  · intro o1 o2 c h1 h2
    rcases hoo o1 c h1 with ⟨a1, a2⟩ | ⟨rfl, rfl⟩ <;> rcases hoo o2 _ h2 with ⟨b1, b2⟩ | ⟨rfl, b2⟩
    · exact h.uniq o1 o2 c a2 b2
    · exact ((hother' o1 c a1 a2).2.2 b2).elim
    · exact ((hother' o2 _ b1 b2).2.2 rfl).elim
    · rfl
  · intro o c h1 h2 off
    rcases hoo o c h1 with ⟨a1, a2⟩ | ⟨rfl, rfl⟩
    · show G1.F c off = none
      rw [hF1 _ _ (hother' o c a1 a2).2.2]
      exact h.ownF o c a2 (fun ⟨n, g, e⟩ => h2 ⟨n, g, by rw [List.getElem?_set_ne (Ne.symm a1)]; exact e⟩) off
    · exact (h2 ⟨size, hw + k, hself⟩).elim
  · intro c hc ho
    exact hother c hc fun e => ho t (e ▸ how)
  · intro o c h1 hc
    rcases hoo o c h1 with ⟨a1, a2⟩ | ⟨rfl, rfl⟩
    · exact ⟨o, a2⟩
    · rcases hcase with ⟨e, _⟩ | ⟨e, _⟩
      · exact ⟨o, e ▸ how⟩
      · omega
  · intro c off v hv hc ho
    have hv : G1.F c off = some v := hv
    have hne : c ≠ s'.blk := by
      intro e
      rcases hcase with ⟨e', _⟩ | ⟨e', _⟩
      · exact ho t (by rw [e, e']; exact how)
      · omega
    rwa [hF1 _ _ hne] at hv
  · intro o ho h1 h2
    have hne : o ≠ t := fun e => by subst e; rw [h2 hw] at hh; cases hh
    exact ⟨List.getElem?_set_ne (Ne.symm hne), by show G1.loc o = none; rw [hl1]; exact h1, fun g => by rw [hhist o g hne]; exact h2 g⟩

/-- An object's memory is from now on never written: the object is gone. -/
theorem WR.retire {G : Gh} {st : List LObj} {w w' : World} (h : WR G st w) {o b size n : Nat} {es : List (List LV)} {arr : Array Value} {e : TypeId} {fz fz' : Nat × Nat} (hs : st[o]? = some (.row es)) (hl : G.loc o = some (.row b size n))
    (ha : w.heap[b]? = some (.cells arr e fz)) (hw : SameBut b w w') (hb : w'.heap[b]? = some (.cells arr e fz')) :
    WR (G.addF b fun off => arr[off]?) (st.set o .dead) w' ∧ Ext G st w (G.addF b fun off => arr[off]?) (st.set o .dead) w' := by
  have holt : o < st.length := (List.getElem?_eq_some_iff.1 hs).1
  have hself : (st.set o LObj.dead)[o]? = some .dead := List.getElem?_set_self holt
  have hns : ¬ isSpare st o := by rintro ⟨n, k, e⟩; rw [hs] at e; cases e
  have how : Owns G st o b := by unfold Owns; rw [hs]; exact ⟨size, n, hl⟩
  have hle : G.le (G.addF b fun off => arr[off]?) := Gh.le_addF ..
  have hoo : ∀ o' c, Owns (G.addF b fun off => arr[off]?) (st.set o .dead) o' c → o' ≠ o ∧ Owns G st o' c := by
    intro o' c ho
    by_cases e' : o' = o
    · subst e'; unfold Owns at ho; rw [hself] at ho; exact ho.elim
    · refine ⟨e', ?_⟩
      unfold Owns at ho ⊢
      rw [List.getElem?_set_ne (Ne.symm e')] at ho
      exact ho
  have hne : ∀ o' c, o' ≠ o → Owns G st o' c → c ≠ b := fun o' c e hc hcb => e (h.uniq o' o c hc (hcb ▸ how))
  have hcell : ∀ c off v, w.cell? ⟨c, off, none⟩ = some v → w'.cell? ⟨c, off, none⟩ = some v := by
    intro c off v hv
    by_cases hc : c = b
    · subst hc
      unfold World.cell? at hv ⊢
      simp only [ha] at hv
      simp only [hb]
      exact hv
    · unfold World.cell? at hv ⊢
      rw [show w'.heap[c]? = w.heap[c]? from hw.other c hc]
      exact hv
  refine ⟨⟨?_, ?_, ?_, ?_, ?_, ?_, ?_, ?_, fun o' y ho hy f => ?_⟩, ⟨hle, hw.os, hw.tape, hw.output, by rw [hw.size]; exact Nat.le_refl _, ?_, ?_, ?_, ?_, by simp⟩⟩
  rotate_left 8
  · rcases get_set_cases ho with ⟨_, ho⟩ | ⟨rfl, _, _⟩
    · exact h.kind o' y ho hy f
    · exact h.kind _ _ hs (fun n k e => by cases e) f
  rotate_left 4
  · intro c off v hv
    simp only [Gh.addF] at hv
    split at hv
    · rename_i v' hv'
      cases hv
      exact hcell _ _ _ (h.fr c off _ hv')
    · split at hv
      · rename_i hcb
        subst hcb
        unfold World.cell?
        simp only [hb]
        exact hv
      · cases hv
  · intro o' ho'; simp at ho'; exact h.dom o' ho'
  · intro o' es' ho' l' hl'
    rcases get_set_cases ho' with ⟨e1, ho'⟩ | ⟨rfl, _, e1⟩
    · obtain ⟨blk, sz, m, e', arr', ty, hbb, r1, r2, r3⟩ := h.row o' es' ho' l' hl'
      have hc := hne o' blk e1 (by unfold Owns; rw [ho']; exact ⟨sz, m, e' ▸ hl'⟩)
      exact ⟨blk, sz, m, e', arr', ty, by rw [hw.other _ hc]; exact hbb, r1, r2, r3.mono hle⟩
    · cases e1
  · intro o' kv ho' l' hl'
    rcases get_set_cases ho' with ⟨e1, ho'⟩ | ⟨rfl, _, e1⟩
    · obtain ⟨blk, e', es', c, hbb, r⟩ := h.map o' kv ho' l' hl'
      have hc := hne o' blk e1 (by unfold Owns; rw [ho']; exact e' ▸ hl')
      exact ⟨blk, e', es', c, by rw [hw.other _ hc]; exact hbb, r.mono hle⟩
    · cases e1
  · intro o' s p ho' l' hl'
    rcases get_set_cases ho' with ⟨e1, ho'⟩ | ⟨rfl, _, e1⟩
    · obtain ⟨blk, e', hbb⟩ := h.iter o' s p ho' l' hl'
      have hc := hne o' blk e1 (by unfold Owns; rw [ho']; exact e' ▸ hl')
      exact ⟨blk, e', by rw [hw.other _ hc]; exact hbb⟩
    · cases e1
  · intro o' n' k ho'
    rcases get_set_cases ho' with ⟨e1, ho'⟩ | ⟨rfl, _, e1⟩
    · obtain ⟨h1, h2⟩ := h.spare o' n' k ho'
      refine ⟨h1, fun s hs' => ?_⟩
      obtain ⟨a, ⟨arr', ty, hbb, r⟩, hf⟩ := h2 s hs'
      have hc := hne o' s.blk e1 (by unfold Owns; rw [ho']; exact ⟨s, hs', rfl⟩)
      exact ⟨a, ⟨arr', ty, by rw [hw.other _ hc]; exact hbb, r⟩, fun off ho => by rw [Gh.addF_other hc]; exact hf off ho⟩
    · cases e1
  · intro o1 o2 c h1 h2
    exact h.uniq o1 o2 c (hoo _ _ h1).2 (hoo _ _ h2).2
  · intro o' c h1 h2 off
    obtain ⟨e1, h1'⟩ := hoo _ _ h1
    rw [Gh.addF_other (hne o' c e1 h1')]
    refine h.ownF o' c h1' (fun ⟨n, k, e⟩ => h2 ⟨n, k, by rw [List.getElem?_set_ne (Ne.symm e1)]; exact e⟩) off
  · intro c hc ho'
    exact hw.other c fun e => ho' o (e ▸ how)
  · intro o' c h1 _; exact ⟨o', (hoo _ _ h1).2⟩
  · intro c off v hv hc ho'
    have hcb : c ≠ b := fun e => ho' o (e ▸ how)
    rwa [Gh.addF_other hcb] at hv
  · intro o' ho' h1 h2
    refine ⟨?_, h1, h2⟩
    rw [List.getElem?_set_ne]
    intro e; subst e; rw [hl] at h1; cases h1

end Go.LS

/- A call over what it can meet, and the dropping of what nothing leads to. -/
import Derived.Test.YthiilhepneddpaaLsSound9
set_option linter.unusedVariables false
set_option linter.unusedSimpArgs false
namespace Go.LS

/-! Renaming twice. -/
theorem LV.ren_ren (r s : Nat → Nat) (v : LV) : (∀ q ∈ v.refs, s (r q) = q) → (v.ren r).ren s = v := by
  induction v using LV.rec (motive_2 := fun l => (∀ q ∈ l.flatMap LV.refs, s (r q) = q) → (l.map (LV.ren r)).map (LV.ren s) = l) with
  | und => intro _; simp [LV.ren]
  | anyb => intro _; simp [LV.ren]
  | p => intro _; simp [LV.ren]
  | tight => intro _; simp [LV.ren]
  | pin => intro _; simp [LV.ren]
  | sl es t f => intro h; simp [LV.ren]; exact h t (by simp [LV.refs])
  | gr t n => intro h; simp [LV.ren]; exact h t (by simp [LV.refs])
  | ptr o i off => intro h; simp [LV.ren]; exact h o (by simp [LV.refs])
  | rs o i off => intro h; simp [LV.ren]; exact h o (by simp [LV.refs])
  | mp o => intro h; simp [LV.ren]; exact h o (by simp [LV.refs])
  | it o => intro h; simp [LV.ren]; exact h o (by simp [LV.refs])
  | fn f a b ih1 ih2 =>
    intro h
    simp only [LV.refs, LV.refsL_eq] at h
    simp only [LV.ren, LV.renL_eq, LV.fn.injEq, true_and]
    exact ⟨ih1 fun q hq => h q (by simp only [List.mem_append]; exact .inl hq), ih2 fun q hq => h q (by simp only [List.mem_append]; exact .inr hq)⟩
  | ifc t v ih => intro h; simp only [LV.ren, LV.ifc.injEq, true_and]; exact ih (by simpa [LV.refs] using h)
  | agg cs ih => intro h; simp only [LV.ren, LV.renL_eq, LV.agg.injEq]; exact ih (by simpa [LV.refs, LV.refsL_eq] using h)
  | tup cs ih => intro h; simp only [LV.ren, LV.renL_eq, LV.tup.injEq]; exact ih (by simpa [LV.refs, LV.refsL_eq] using h)
  | nil => rfl
  | cons x l ih1 ih2 =>
    rename_i h
    simp only [List.map_cons, List.cons.injEq]
    exact ⟨ih1 fun q hq => h q (by simp only [List.flatMap_cons, List.mem_append]; exact .inl hq), ih2 fun q hq => h q (by simp only [List.flatMap_cons, List.mem_append]; exact .inr hq)⟩

/-- What a value leads to has a place. -/
def Real (G : Gh) (o : Nat) : Prop := G.loc o ≠ none ∨ ∃ f, G.hist o f ≠ none

theorem VL.real {G : Gh} {v : LV} {u : Value} (h : VL G v u) : ∀ q ∈ v.refs, Real G q := by
  induction h with
  | und => intro q hq; simp [LV.refs] at hq
  | anyb => intro q hq; simp [LV.refs] at hq
  | p => intro q hq; simp [LV.refs] at hq
  | tight => intro q hq; simp [LV.refs] at hq
  | pin => intro q hq; simp [LV.refs] at hq
  | sl h1 h2 h3 h4 => intro q hq; simp [LV.refs] at hq; subst hq; exact .inr ⟨_, by rw [h4]; simp⟩
  | gr h1 h2 h3 => intro q hq; simp [LV.refs] at hq; subst hq; exact .inr ⟨_, by rw [h3]; simp⟩
  | ptr h => intro q hq; simp [LV.refs] at hq; subst hq; exact .inl (by rw [h]; simp)
  | rs h => intro q hq; simp [LV.refs] at hq; subst hq; exact .inl (by rw [h]; simp)
  | mp h => intro q hq; simp [LV.refs] at hq; subst hq; exact .inl (by rw [h]; simp)
  | it h => intro q hq; simp [LV.refs] at hq; subst hq; exact .inl (by rw [h]; simp)
  | fn f vf vc s1 s2 hf hc ih1 ih2 =>
    intro q hq
    simp only [LV.refs, LV.refsL_eq, List.mem_append, List.mem_flatMap] at hq
    rcases hq with ⟨x, hx, hq⟩ | ⟨x, hx, hq⟩
    · obtain ⟨i, hi⟩ := List.getElem?_of_mem hx; exact ih1 i x hi q hq
    · obtain ⟨i, hi⟩ := List.getElem?_of_mem hx; exact ih2 i x hi q hq
  | ifc t _ ih => intro q hq; exact ih q (by simpa [LV.refs] using hq)
  | agg vs s1 s2 _ ih =>
    intro q hq
    simp only [LV.refs, LV.refsL_eq, List.mem_flatMap] at hq
    obtain ⟨x, hx, hq⟩ := hq
    obtain ⟨i, hi⟩ := List.getElem?_of_mem hx; exact ih i x hi q hq
  | tup vs s1 _ ih =>
    intro q hq
    simp only [LV.refs, LV.refsL_eq, List.mem_flatMap] at hq
    obtain ⟨x, hx, hq⟩ := hq
    obtain ⟨i, hi⟩ := List.getElem?_of_mem hx; exact ih i x hi q hq

theorem WR.real_refs {G : Gh} {st : List LObj} {w : World} (h : WR G st w) {o : Nat} (ho : Real G o) : ∀ q ∈ ((st[o]?).getD .dead).refs, Real G q := by
  intro q hq
  cases hs : st[o]? with
  | none => simp [hs, LObj.refs] at hq
  | some x =>
    simp only [hs, Option.getD_some] at hq
    have hloc : (∀ n hw, x ≠ .spare n hw) → ∃ l, G.loc o = some l := by
      intro hx
      rcases ho with ho | ⟨f, ho⟩
      · exact Option.ne_none_iff_exists'.1 ho
      · exact (ho (h.kind o x hs hx f)).elim
    cases x with
    | dead => simp [LObj.refs] at hq
    | spare n hw => simp [LObj.refs] at hq
    | siter s p => simp [LObj.refs] at hq
    | row es =>
      obtain ⟨l, hl⟩ := hloc (by intros; simp)
      obtain ⟨blk, size, n, rfl, arr, ty, _, _, _, hr⟩ := h.row o es hs l hl
      simp only [LObj.refs, List.mem_flatMap] at hq
      obtain ⟨e, he, c, hc, hq⟩ := hq
      obtain ⟨i, hi⟩ := List.getElem?_of_mem he
      obtain ⟨j, hj⟩ := List.getElem?_of_mem hc
      obtain ⟨u, _, hv, _⟩ := hr.2 i j c (by simp [at2, hi, hj])
      exact hv.real q hq
    | map kv =>
      obtain ⟨l, hl⟩ := hloc (by intros; simp)
      obtain ⟨blk, rfl, es, c, _, hm⟩ := h.map o kv hs l hl
      simp only [LObj.refs, List.mem_flatMap] at hq
      obtain ⟨⟨k, v⟩, he, hq⟩ := hq
      obtain ⟨i, hi⟩ := List.getElem?_of_mem he
      obtain ⟨u, _, _, hv⟩ := hm.2 i k v hi
      exact hv.real q hq

theorem reach_real {G : Gh} {st : List LObj} {w : World} (h : WR G st w) : ∀ (n : Nat) (todo acc : List Nat), (∀ o ∈ todo, Real G o) → (∀ o ∈ acc, Real G o) → ∀ o ∈ reach st n todo acc, Real G o
  | 0, todo, acc, h1, h2 => by simpa [reach] using h2
  | n + 1, [], acc, h1, h2 => by simpa [reach] using h2
  | n + 1, o :: todo, acc, h1, h2 => by
    simp only [reach]
    split
    · exact reach_real h n todo acc (fun q hq => h1 q (by simp [hq])) h2
    · refine reach_real h n _ _ ?_ ?_
      · intro q hq
        rcases List.mem_append.1 hq with hq | hq
        · exact h.real_refs (h1 o (by simp)) q hq
        · exact h1 q (by simp [hq])
      · intro q hq
        rcases List.mem_append.1 hq with hq | hq
        · exact h2 q hq
        · simp at hq; subst hq; exact h1 q (by simp)

/-! The listed objects alone, under new numbers. -/
def Gh.pull (G : Gh) (ids : List Nat) : Gh := { F := G.F, loc := fun j => (ids[j]?).bind G.loc, hist := fun j f => (ids[j]?).bind fun o => G.hist o f }

theorem closed_inv {st : List LObj} {ids : List Nat} (h : closed st ids = true) : ∀ o ∈ ids, o < st.length ∧ ∀ q ∈ ((st[o]?).getD .dead).refs, q ∈ ids := by
  intro o ho
  have := List.all_eq_true.1 h o ho
  simp only [Bool.and_eq_true, decide_eq_true_eq, List.all_eq_true] at this
  exact ⟨this.1, fun q hq => by simpa using this.2 q hq⟩

theorem pull_at {G : Gh} {ids : List Nat} {q : Nat} (hq : q ∈ ids) : (G.pull ids).loc (ids.idxOf q) = G.loc q ∧ ∀ f, (G.pull ids).hist (ids.idxOf q) f = G.hist q f := by
  have : ids[ids.idxOf q]? = some q := by
    rw [List.getElem?_eq_getElem (List.idxOf_lt_length_of_mem hq)]
    simp
  simp [Gh.pull, this]

theorem VL.pull {G : Gh} {ids : List Nat} {v : LV} {u : Value} (h : VL G v u) (hr : ∀ q ∈ v.refs, q ∈ ids) : VL (G.pull ids) (v.ren fun q => ids.idxOf q) u :=
  VL.ren (G := G) (G' := G.pull ids) (fun _ _ _ h => h) _ h (fun o ho l hl => by rw [(pull_at (hr o ho)).1]; exact hl) (fun o ho f s hs => by rw [(pull_at (hr o ho)).2]; exact hs)

theorem sub_at {st : List LObj} {ids : List Nat} (hc : closed st ids = true) {j : Nat} {x : LObj} (h : (sub st ids)[j]? = some x) :
    ∃ o y, ids[j]? = some o ∧ o ∈ ids ∧ st[o]? = some y ∧ x = y.ren (fun q => ids.idxOf q) := by
  simp only [sub, List.getElem?_map] at h
  cases hi : ids[j]? with
  | none => simp [hi] at h
  | some o =>
    simp [hi] at h
    have hm := List.mem_of_getElem? hi
    have hlt := (closed_inv hc o hm).1
    refine ⟨o, st[o], rfl, hm, by simp [hlt], ?_⟩
    rw [← h]; simp [hlt]

theorem sub_get {st : List LObj} {ids : List Nat} {j o : Nat} {y : LObj} (hi : ids[j]? = some o) (hy : st[o]? = some y) : (sub st ids)[j]? = some (y.ren fun q => ids.idxOf q) := by
  simp [sub, hi, hy]

theorem at2_map {es : List (List LV)} {r : Nat → Nat} {i j : Nat} {c : LV} (h : at2 (es.map fun e => e.map (LV.ren r)) i j = some c) : ∃ d, at2 es i j = some d ∧ c = d.ren r := by
  unfold at2 at h ⊢
  rw [List.getElem?_map] at h
  cases hi : es[i]? with
  | none => simp [hi] at h
  | some e =>
    simp only [hi, Option.map_some, Option.bind_some, List.getElem?_map] at h ⊢
    cases hj : e[j]? with
    | none => simp [hj] at h
    | some d => simp [hj] at h; exact ⟨d, rfl, h.symm⟩

theorem mem_at2 {es : List (List LV)} {i j : Nat} {c : LV} {q : Nat} (h : at2 es i j = some c) (hq : q ∈ c.refs) : q ∈ (LObj.row es).refs := by
  unfold at2 at h
  cases hi : es[i]? with
  | none => simp [hi] at h
  | some e =>
    simp [hi] at h
    simp only [LObj.refs, List.mem_flatMap]
    exact ⟨e, List.mem_of_getElem? hi, c, List.mem_of_getElem? h, hq⟩

theorem rowOk.ren {G G' : Gh} {r : Nat → Nat} {arr : Array Value} {es : List (List LV)} {size : Nat} (h : rowOk G arr es size)
    (hv : ∀ i j c, at2 es i j = some c → ∀ u, VL G c u → VL G' (c.ren r) u) : rowOk G' arr (es.map fun e => e.map (LV.ren r)) size := by
  refine ⟨fun e he => ?_, fun i j c hc => ?_⟩
  · obtain ⟨e', he', rfl⟩ := List.mem_map.1 he; simp [h.1 e' he']
  · obtain ⟨d, hd, rfl⟩ := at2_map hc
    obtain ⟨u, a1, a2, a3⟩ := h.2 i j d hd
    exact ⟨u, a1, hv i j d hd u a2, a3⟩

theorem mapOk.ren {G G' : Gh} {r : Nat → Nat} {es : Array MapEntry} {kv : List (PV × LV)} (h : mapOk G es kv) (hF : ∀ b o v, G.F b o = some v → G'.F b o = some v)
    (hv : ∀ (i : Nat) k c, kv[i]? = some (k, c) → ∀ u, VL G c u → VL G' (c.ren r) u) : mapOk G' es (kv.map fun x => (x.1, x.2.ren r)) := by
  refine ⟨by simp [h.1], fun i k v hi => ?_⟩
  rw [List.getElem?_map] at hi
  cases hx : kv[i]? with
  | none => simp [hx] at hi
  | some x =>
    obtain ⟨k', c⟩ := x
    simp [hx] at hi
    obtain ⟨rfl, rfl⟩ := hi
    obtain ⟨e, a1, a2, a3⟩ := h.2 i k' c hx
    exact ⟨e, a1, a2.mono hF, hv i k' c hx _ a3⟩

theorem mem_map_refs {kv : List (PV × LV)} {i : Nat} {k : PV} {c : LV} {q : Nat} (h : kv[i]? = some (k, c)) (hq : q ∈ c.refs) : q ∈ (LObj.map kv).refs := by
  simp only [LObj.refs, List.mem_flatMap]
  exact ⟨(k, c), List.mem_of_getElem? h, hq⟩

theorem owns_pull {G : Gh} {st : List LObj} {ids : List Nat} (hc : closed st ids = true) {j b : Nat} (h : Owns (G.pull ids) (sub st ids) j b) : ∃ o, ids[j]? = some o ∧ Owns G st o b := by
  unfold Owns at h
  cases hs : (sub st ids)[j]? with
  | none => rw [hs] at h; exact h.elim
  | some x =>
    obtain ⟨o, y, hi, hm, hy, rfl⟩ := sub_at hc hs
    rw [hs] at h
    refine ⟨o, hi, ?_⟩
    unfold Owns
    rw [hy]
    cases y <;> simp_all [LObj.ren, Gh.pull]

theorem WR.pull {G : Gh} {st : List LObj} {w : World} (h : WR G st w) {ids : List Nat} (hc : closed st ids = true) (hn : ids.Nodup) : WR (G.pull ids) (sub st ids) w := by
  have hcl := closed_inv hc
  have hlen : (sub st ids).length = ids.length := by simp [sub]
  have hloc : ∀ j o, ids[j]? = some o → (G.pull ids).loc j = G.loc o := fun j o hi => by simp [Gh.pull, hi]
  have hhist : ∀ j o f, ids[j]? = some o → (G.pull ids).hist j f = G.hist o f := fun j o f hi => by simp [Gh.pull, hi]
  refine ⟨h.fr, ?_, ?_, ?_, ?_, ?_, ?_, ?_, ?_⟩
  · intro j hj
    rw [hlen] at hj
    simp [Gh.pull, List.getElem?_eq_none hj]
  · intro j es hs l hl
    obtain ⟨o, y, hi, hm, hy, e⟩ := sub_at hc hs
    cases y <;> simp only [LObj.ren, reduceCtorEq, LObj.row.injEq] at e
    rename_i es0
    subst e
    rw [hloc j o hi] at hl
    obtain ⟨blk, size, n, e, arr, ty, hb, r1, r2, r3⟩ := h.row o es0 hy l hl
    refine ⟨blk, size, n, e, arr, ty, hb, r1, by simpa using r2, r3.ren fun i j c hcc u hv => hv.pull fun q hq => (hcl o hm).2 q ?_⟩
    rw [hy]; exact mem_at2 hcc hq
  · intro j kv hs l hl
    obtain ⟨o, y, hi, hm, hy, e⟩ := sub_at hc hs
    cases y <;> simp only [LObj.ren, reduceCtorEq, LObj.map.injEq] at e
    rename_i kv0
    subst e
    rw [hloc j o hi] at hl
    obtain ⟨blk, e, es, c, hb, r⟩ := h.map o kv0 hy l hl
    refine ⟨blk, e, es, c, hb, r.ren (fun _ _ _ h => h) fun i k c hcc u hv => hv.pull fun q hq => (hcl o hm).2 q ?_⟩
    rw [hy]; exact mem_map_refs hcc hq
  · intro j s p hs l hl
    obtain ⟨o, y, hi, hm, hy, e⟩ := sub_at hc hs
    cases y <;> simp only [LObj.ren, reduceCtorEq, LObj.siter.injEq] at e
    obtain ⟨rfl, rfl⟩ := e
    rw [hloc j o hi] at hl
    exact h.iter o _ _ hy l hl
  · intro j n hw hs
    obtain ⟨o, y, hi, hm, hy, e⟩ := sub_at hc hs
    cases y <;> simp only [LObj.ren, reduceCtorEq, LObj.spare.injEq] at e
    obtain ⟨rfl, rfl⟩ := e
    obtain ⟨h1, h2⟩ := h.spare o _ _ hy
    exact ⟨fun f hf => by rw [hhist j o f hi]; exact h1 f hf, fun s hs => h2 s (by rw [hhist j o _ hi] at hs; exact hs)⟩
  · intro j j' b h1 h2
    obtain ⟨o, hi, ho⟩ := owns_pull hc h1
    obtain ⟨o', hi', ho'⟩ := owns_pull hc h2
    have := h.uniq o o' b ho ho'
    subst this
    have hlt := (List.getElem?_eq_some_iff.1 hi).1
    exact (List.getElem?_inj hlt hn).1 (hi.trans hi'.symm)
  · intro j b h1 h2 off
    obtain ⟨o, hi, ho⟩ := owns_pull hc h1
    refine h.ownF o b ho (fun ⟨n, k, e⟩ => h2 ⟨n, k, ?_⟩) off
    rw [sub_get hi e]; rfl
  · intro j x hs hx f
    obtain ⟨o, y, hi, hm, hy, rfl⟩ := sub_at hc hs
    rw [hhist j o f hi]
    refine h.kind o y hy (fun n k e => ?_) f
    subst e
    exact hx n k rfl

/-- What stays where it is when the rest is dropped. -/
theorem gc_sound {G0 G : Gh} {st0 st : List LObj} {w0 w : World} (h : WR G st w) (hx : Ext0 G0 st0 w0 G st w) (hd : ∀ o, st0.length ≤ o → G0.loc o = none ∧ ∀ f, G0.hist o f = none)
    {vs vs' : List LV} {st' : List LObj} (hg : gc st0.length vs st = some (vs', st')) {us : List Value} (hl : us.length = vs.length) (hv : ∀ (i : Nat) v u, vs[i]? = some v → us[i]? = some u → VL G v u) :
    ∃ G', WR G' st' w ∧ Ext0 G0 st0 w0 G' st' w ∧ vs'.length = vs.length ∧ ∀ (i : Nat) v u, vs'[i]? = some v → us[i]? = some u → VL G' v u := by
  unfold gc at hg
  generalize hids : gcIds st0.length st (vs.flatMap LV.refs) = ids at hg
  simp only at hg
  split at hg
  · rename_i hcond
    cases hg
    simp only [Bool.and_eq_true, decide_eq_true_eq, List.all_eq_true, List.contains_iff_mem] at hcond
    obtain ⟨⟨⟨c1, c2⟩, c3⟩, c4⟩ := hcond
    have hk : ∀ o, o < st0.length → ids[o]? = some o := by
      intro o ho
      have := congrArg (fun l : List Nat => l[o]?) c4
      simp only [List.getElem?_take, ho, if_true, List.getElem?_range ho] at this
      exact this
    refine ⟨G.pull ids, h.pull c1 c3, ⟨⟨hx.le.F, ?_, ?_⟩, hx.os, hx.tape, hx.output, hx.hsz, hx.unch, ?_, hx.newF⟩, by simp, ?_⟩
    · intro o l hl
      have ho : o < st0.length := by
        rcases Nat.lt_or_ge o st0.length with h' | h'
        · exact h'
        · rw [(hd o h').1] at hl; cases hl
      simp only [Gh.pull, hk o ho, Option.bind_some]
      exact hx.le.loc o l hl
    · intro o f s hs
      have ho : o < st0.length := by
        rcases Nat.lt_or_ge o st0.length with h' | h'
        · exact h'
        · rw [(hd o h').2 f] at hs; cases hs
      simp only [Gh.pull, hk o ho, Option.bind_some]
      exact hx.le.hist o f s hs
    · intro j b ho hb
      obtain ⟨o, _, ho⟩ := owns_pull c1 ho
      exact hx.own o b ho hb
    · intro i v u hi hu
      rw [List.getElem?_map] at hi
      cases hq : vs[i]? with
      | none => simp [hq] at hi
      | some x =>
        simp [hq] at hi; subst hi
        refine (hv i x u hq hu).pull fun q hqq => c2 q ?_
        simp only [List.mem_flatMap]
        exact ⟨x, List.mem_of_getElem? hq, hqq⟩
  · cases hg

end Go.LS

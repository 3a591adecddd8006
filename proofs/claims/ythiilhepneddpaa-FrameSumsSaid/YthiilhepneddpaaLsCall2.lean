/- A call over what it can meet alone: its soundness. -/
import Derived.Test.YthiilhepneddpaaLsCall
set_option linter.unusedVariables false
set_option linter.unusedSimpArgs false
namespace Go.LS

def CallOK (P : Program) (call : CallF) : Prop := ∀ f args st res st', call f args st = some (res, st') → plainFn P f = true ∧ ∀ G w us, WR G st w → ArgsR G args us →
  Calls P f us w fun e w' => ∃ u G', e = .returned u ∧ WR G' st' w' ∧ VL G' res u ∧ Ext0 G st w G' st' w'

def src (ids : List Nat) (n o : Nat) : Option Nat := if o ∈ ids then some (ids.idxOf o) else if o < n then none else some (ids.length + (o - n))

def Gh.push (G G1 : Gh) (ids : List Nat) (n : Nat) : Gh :=
  { F := G1.F, loc := fun o => match src ids n o with | some j => G1.loc j | none => G.loc o, hist := fun o f => match src ids n o with | some j => G1.hist j f | none => G.hist o f }

theorem src_back {ids : List Nat} {n : Nat} (hn : ids.Nodup) (hlt : ∀ o ∈ ids, o < n) (j : Nat) : src ids n (back ids n j) = some j := by
  unfold back
  split
  · rename_i h
    unfold src
    rw [if_pos (List.getElem_mem _)]
    congr 1
    exact List.Nodup.idxOf_getElem hn j h
  · rename_i h
    unfold src
    have h1 : ¬ (n + (j - ids.length) ∈ ids) := fun hm => by have := hlt _ hm; omega
    rw [if_neg h1, if_neg (by omega)]
    congr 1; omega

theorem back_idxOf {ids : List Nat} {n q : Nat} (hq : q ∈ ids) : back ids n (ids.idxOf q) = q := by
  unfold back
  rw [dif_pos (List.idxOf_lt_length_of_mem hq)]
  simp

theorem src_inj {ids : List Nat} {n o j : Nat} (hn : ids.Nodup) (hlt : ∀ o ∈ ids, o < n) (h : src ids n o = some j) : o = back ids n j := by
  unfold src at h
  split at h
  · rename_i hm; cases h; exact (back_idxOf hm).symm
  · split at h
    · cases h
    · rename_i h1 h2
      cases h
      unfold back
      rw [dif_neg (by omega)]
      omega

theorem putBack_len : ∀ (st : List LObj) (ids : List Nat) (xs : List LObj), (putBack st ids xs).length = st.length
  | st, [], xs => by cases xs <;> rfl
  | st, o :: ids, [] => rfl
  | st, o :: ids, x :: r => by simp [putBack, putBack_len]

theorem putBack_other : ∀ (st : List LObj) (ids : List Nat) (xs : List LObj) (o : Nat), o ∉ ids → (putBack st ids xs)[o]? = st[o]?
  | st, [], xs, o, h => by cases xs <;> rfl
  | st, q :: ids, [], o, h => rfl
  | st, q :: ids, x :: r, o, h => by
    simp only [putBack]
    rw [putBack_other _ ids r o (fun hm => h (by simp [hm])), List.getElem?_set_ne (fun e => h (by simp [e]))]

theorem putBack_at : ∀ (st : List LObj) (ids : List Nat) (xs : List LObj), ids.Nodup → ids.length = xs.length → (∀ o ∈ ids, o < st.length) → ∀ o ∈ ids, (putBack st ids xs)[o]? = xs[ids.idxOf o]?
  | st, [], xs, _, _, _, o, h => by simp at h
  | st, q :: ids, [], _, hl, _, o, h => by simp at hl
  | st, q :: ids, x :: r, hn, hl, hlt, o, h => by
    simp only [putBack]
    have hn' := List.nodup_cons.1 hn
    by_cases e : o = q
    · subst e
      rw [putBack_other _ ids r o hn'.1, List.getElem?_set_self (hlt o (by simp))]
      simp
    · have hm : o ∈ ids := by rcases List.mem_cons.1 h with h | h; · exact (e h).elim
                              · exact h
      rw [putBack_at _ ids r hn'.2 (by simpa using hl) (fun o ho => by simpa using hlt o (by simp [ho])) o hm]
      rw [List.idxOf_cons]
      have : (q == o) = false := by simpa using Ne.symm e
      rw [this]
      simp

/-- What the store holds behind the call. -/
theorem merged_get {st : List LObj} {ids : List Nat} {st1 : List LObj} (hn : ids.Nodup) (hlt : ∀ o ∈ ids, o < st.length) (hk : ids.length ≤ st1.length) (o : Nat) :
    (putBack st ids ((st1.take ids.length).map (LObj.ren (back ids st.length))) ++ (st1.drop ids.length).map (LObj.ren (back ids st.length)))[o]? =
      match src ids st.length o with
      | some j => (st1[j]?).map (LObj.ren (back ids st.length))
      | none => st[o]? := by
  have hpl := putBack_len st ids ((st1.take ids.length).map (LObj.ren (back ids st.length)))
  unfold src
  split
  · rename_i j hj
    split at hj
    · rename_i hm
      cases hj
      rw [List.getElem?_append_left (by rw [hpl]; exact hlt o hm), putBack_at st ids _ hn (by simp; omega) hlt o hm, List.getElem?_map, List.getElem?_take, if_pos (List.idxOf_lt_length_of_mem hm)]
    · rename_i hm
      split at hj
      · cases hj
      · cases hj
        rw [List.getElem?_append_right (by rw [hpl]; omega), hpl, List.getElem?_map, List.getElem?_drop]
  · rename_i hj
    split at hj
    · cases hj
    · rename_i hm
      split at hj
      · rename_i ho
        rw [List.getElem?_append_left (by rw [hpl]; exact ho), putBack_other _ _ _ _ hm]
      · cases hj

theorem callIso_plain {P : Program} {call : CallF} (hok : CallOK P call) {f : FuncId} {args : List LV} {st st' : List LObj} {res : LV} (hc : callIso call f args st = some (res, st')) : plainFn P f = true := by
  unfold callIso at hc
  simp only at hc
  split at hc
  case isFalse => cases hc
  split at hc
  case h_2 => cases hc
  rename_i r st1 hcall
  exact (hok _ _ _ _ _ hcall).1

theorem callIso_sound {P : Program} {call : CallF} (hok : CallOK P call) {f : FuncId} {args : List LV} {st st' : List LObj} {res : LV} (hc : callIso call f args st = some (res, st'))
    {G : Gh} {w : World} {us : Array Value} (h : WR G st w) (ha : ArgsR G args us) :
    Calls P f us w fun e w' => ∃ u, e = .returned u ∧ Good G st w res st' u w' := by
  unfold callIso at hc
  generalize hids : reach st 100000 (args.flatMap LV.refs) [] = ids at hc
  simp only at hc
  split at hc
  case isFalse => cases hc
  rename_i hcond
  simp only [Bool.and_eq_true, decide_eq_true_eq, List.all_eq_true, List.contains_iff_mem] at hcond
  obtain ⟨⟨c1, c2⟩, hn⟩ := hcond
  split at hc
  case h_2 => cases hc
  rename_i r st1 hcall
  split at hc
  case isFalse => cases hc
  rename_i hk
  cases hc
  have hcl := closed_inv c1
  have hlt : ∀ o ∈ ids, o < st.length := fun o ho => (hcl o ho).1
  have hreal : ∀ o ∈ ids, Real G o := by
    rw [← hids]
    refine reach_real h _ _ _ ?_ (by simp)
    intro q hq
    obtain ⟨v, hv, hq⟩ := List.mem_flatMap.1 hq
    obtain ⟨i, hi⟩ := List.getElem?_of_mem hv
    exact (ha.2 i v hi).real q hq
  have hargs : ArgsR (G.pull ids) (args.map (LV.ren fun q => ids.idxOf q)) us := by
    refine ⟨by simp [ha.1], fun i x hi => ?_⟩
    rw [List.getElem?_map] at hi
    cases hq : args[i]? with
    | none => simp [hq] at hi
    | some v =>
      simp [hq] at hi; subst hi
      exact (ha.2 i v hq).pull fun q hqq => c2 q (by simp only [List.mem_flatMap]; exact ⟨v, List.mem_of_getElem? hq, hqq⟩)
  refine ((hok _ _ _ _ _ hcall).2 _ _ _ (h.pull c1 hn) hargs).mono fun e w' ⟨u, G1, he, hw1, hv1, hx1⟩ => ⟨u, he, ?_⟩
  generalize hb : back ids st.length = b
  have hG' : ∀ o, (G.push G1 ids st.length).loc o = match src ids st.length o with | some j => G1.loc j | none => G.loc o := fun o => rfl
  have hH' : ∀ o f, (G.push G1 ids st.length).hist o f = match src ids st.length o with | some j => G1.hist j f | none => G.hist o f := fun o f => rfl
  have hbk : ∀ j, src ids st.length (b j) = some j := fun j => by rw [← hb]; exact src_back hn hlt j
  have hren : ∀ {v : LV} {u : Value}, VL G1 v u → VL (G.push G1 ids st.length) (v.ren b) u := fun {v u} hv =>
    VL.ren (G := G1) (G' := G.push G1 ids st.length) (fun _ _ _ h => h) b hv (fun o _ l hl => by rw [hG', hbk]; exact hl) (fun o _ f s hs => by rw [hH', hbk]; exact hs)
  have hidx : ∀ {o : Nat}, o ∈ ids → ids[ids.idxOf o]? = some o := fun {o} ho => by rw [List.getElem?_eq_getElem (List.idxOf_lt_length_of_mem ho)]; simp
  have hle : G.le (G.push G1 ids st.length) := by
    refine ⟨hx1.le.F, fun o l hl => ?_, fun o f s hs => ?_⟩
    · rw [hG']
      split
      · rename_i j hj
        unfold src at hj
        split at hj
        · rename_i hm; cases hj; exact hx1.le.loc _ _ (by rw [(pull_at hm).1]; exact hl)
        · split at hj
          · cases hj
          · rw [(h.dom o (by omega)).1] at hl; cases hl
      · exact hl
    · rw [hH']
      split
      · rename_i j hj
        unfold src at hj
        split at hj
        · rename_i hm; cases hj; exact hx1.le.hist _ _ _ (by rw [(pull_at hm).2]; exact hs)
        · split at hj
          · cases hj
          · rw [(h.dom o (by omega)).2 f] at hs; cases hs
      · exact hs
  have hget : ∀ o, (putBack st ids ((st1.take ids.length).map (LObj.ren b)) ++ (st1.drop ids.length).map (LObj.ren b))[o]? = match src ids st.length o with | some j => (st1[j]?).map (LObj.ren b) | none => st[o]? :=
    fun o => by rw [← hb]; exact merged_get hn hlt hk o
  generalize hst' : putBack st ids ((st1.take ids.length).map (LObj.ren b)) ++ (st1.drop ids.length).map (LObj.ren b) = st' at hget
  have hlen' : st'.length = st.length + (st1.length - ids.length) := by rw [← hst']; simp [putBack_len]
  -- who owns what
  have hown : ∀ o c, Owns (G.push G1 ids st.length) st' o c → (∃ j, src ids st.length o = some j ∧ Owns G1 st1 j c) ∨ (src ids st.length o = none ∧ Owns G st o c) := by
    intro o c ho
    unfold Owns at ho
    rw [hget o] at ho
    simp only [hG', hH'] at ho
    cases hs : src ids st.length o with
    | none =>
      rw [hs] at ho
      exact .inr ⟨rfl, ho⟩
    | some j =>
      refine .inl ⟨j, rfl, ?_⟩
      rw [hs] at ho
      unfold Owns
      cases hq : st1[j]? with
      | none => simp [hq] at ho
      | some y => cases y <;> simp_all [LObj.ren]
  have hsub : ∀ j c, Owns (G.pull ids) (sub st ids) j c → ∃ o ∈ ids, Owns G st o c := fun j c hj => by
    obtain ⟨o, hi, ho⟩ := owns_pull c1 hj; exact ⟨o, List.mem_of_getElem? hi, ho⟩
  -- an object that the call did not meet
  have hfar : ∀ o c, src ids st.length o = none → Owns G st o c → c < w.heap.size ∧ ∀ j, ¬ Owns (G.pull ids) (sub st ids) j c := by
    intro o c hs ho
    refine ⟨h.owns_lt ho, fun j hj => ?_⟩
    obtain ⟨o', hm, ho'⟩ := hsub j c hj
    have := h.uniq o o' c ho ho'
    subst this
    unfold src at hs
    rw [if_pos hm] at hs
    cases hs
  have hheap : ∀ o c, src ids st.length o = none → Owns G st o c → w'.heap[c]? = w.heap[c]? := fun o c hs ho => let ⟨a, b⟩ := hfar o c hs ho; hx1.unch c a b
  have hcross : ∀ o c j, src ids st.length o = none → Owns G st o c → ¬ Owns G1 st1 j c := by
    intro o c j hs ho hj
    obtain ⟨a, b⟩ := hfar o c hs ho
    obtain ⟨j', hj'⟩ := hx1.own j c hj a
    exact b j' hj'
  have hwr : WR (G.push G1 ids st.length) st' w' := by
    refine ⟨hw1.fr, ?_, ?_, ?_, ?_, ?_, ?_, ?_, ?_⟩
    · intro o ho
      rw [hlen'] at ho
      have hs : src ids st.length o = some (ids.length + (o - st.length)) := by
        unfold src
        rw [if_neg (fun hm => by have := hlt o hm; omega), if_neg (by omega)]
      simp only [hG', hH', hs]
      exact hw1.dom _ (by omega)
    · intro o es ho l hl
      rw [hget o] at ho
      rw [hG'] at hl
      cases hs : src ids st.length o with
      | some j =>
        rw [hs] at ho hl
        simp only at ho hl
        cases hq : st1[j]? with
        | none => simp [hq] at ho
        | some y =>
          simp only [hq, Option.map_some, Option.some.injEq] at ho
          cases y <;> simp only [LObj.ren, reduceCtorEq, LObj.row.injEq] at ho
          subst ho
          obtain ⟨blk, size, n, e, arr, ty, hbb, r1, r2, r3⟩ := hw1.row j _ hq l hl
          exact ⟨blk, size, n, e, arr, ty, hbb, r1, by simpa using r2, r3.ren fun i j c _ u hv => hren hv⟩
      | none =>
        rw [hs] at ho hl
        simp only at ho hl
        obtain ⟨blk, size, n, e, arr, ty, hbb, r1, r2, r3⟩ := h.row o es ho l hl
        have how : Owns G st o blk := by unfold Owns; rw [ho]; exact ⟨size, n, e ▸ hl⟩
        exact ⟨blk, size, n, e, arr, ty, by rw [hheap o blk hs how]; exact hbb, r1, r2, r3.mono hle⟩
    · intro o kv ho l hl
      rw [hget o] at ho
      rw [hG'] at hl
      cases hs : src ids st.length o with
      | some j =>
        rw [hs] at ho hl
        simp only at ho hl
        cases hq : st1[j]? with
        | none => simp [hq] at ho
        | some y =>
          simp only [hq, Option.map_some, Option.some.injEq] at ho
          cases y <;> simp only [LObj.ren, reduceCtorEq, LObj.map.injEq] at ho
          subst ho
          obtain ⟨blk, e, es, c, hbb, r⟩ := hw1.map j _ hq l hl
          exact ⟨blk, e, es, c, hbb, r.ren (fun _ _ _ h => h) fun i k c _ u hv => hren hv⟩
      | none =>
        rw [hs] at ho hl
        simp only at ho hl
        obtain ⟨blk, e, es, c, hbb, r⟩ := h.map o kv ho l hl
        have how : Owns G st o blk := by unfold Owns; rw [ho]; exact e ▸ hl
        exact ⟨blk, e, es, c, by rw [hheap o blk hs how]; exact hbb, r.mono hle⟩
    · intro o s p ho l hl
      rw [hget o] at ho
      rw [hG'] at hl
      cases hs : src ids st.length o with
      | some j =>
        rw [hs] at ho hl
        simp only at ho hl
        cases hq : st1[j]? with
        | none => simp [hq] at ho
        | some y =>
          simp only [hq, Option.map_some, Option.some.injEq] at ho
          cases y <;> simp only [LObj.ren, reduceCtorEq, LObj.siter.injEq] at ho
          obtain ⟨rfl, rfl⟩ := ho
          exact hw1.iter j _ _ hq l hl
      | none =>
        rw [hs] at ho hl
        simp only at ho hl
        obtain ⟨blk, e, hbb⟩ := h.iter o s p ho l hl
        have how : Owns G st o blk := by unfold Owns; rw [ho]; exact e ▸ hl
        exact ⟨blk, e, by rw [hheap o blk hs how]; exact hbb⟩
    · intro o n hw ho
      rw [hget o] at ho
      simp only [hH']
      cases hs : src ids st.length o with
      | some j =>
        rw [hs] at ho
        simp only at ho ⊢
        cases hq : st1[j]? with
        | none => simp [hq] at ho
        | some y =>
          simp only [hq, Option.map_some, Option.some.injEq] at ho
          cases y <;> simp only [LObj.ren, reduceCtorEq, LObj.spare.injEq] at ho
          obtain ⟨rfl, rfl⟩ := ho
          exact hw1.spare j _ _ hq
      | none =>
        rw [hs] at ho
        simp only at ho ⊢
        obtain ⟨h1, h2⟩ := h.spare o n hw ho
        refine ⟨h1, fun s hs' => ?_⟩
        obtain ⟨a, ⟨arr, ty, hbb, hz⟩, hF⟩ := h2 s hs'
        have how : Owns G st o s.blk := by unfold Owns; rw [ho]; exact ⟨s, hs', rfl⟩
        refine ⟨a, ⟨arr, ty, by rw [hheap o _ hs how]; exact hbb, hz⟩, fun off hoff => ?_⟩
        cases hv : (G.push G1 ids st.length).F s.blk off with
        | none => rfl
        | some v =>
          obtain ⟨f1, f2⟩ := hfar o _ hs how
          have := hx1.newF s.blk off v hv f1 f2
          rw [show (G.pull ids).F s.blk off = G.F s.blk off from rfl, hF off hoff] at this
          cases this
    · intro o o' c h1 h2
      rcases hown o c h1 with ⟨j, hj, g1⟩ | ⟨hj, g1⟩ <;> rcases hown o' c h2 with ⟨j', hj', g2⟩ | ⟨hj', g2⟩
      · have := hw1.uniq j j' c g1 g2
        subst this
        rw [src_inj hn hlt hj, src_inj hn hlt hj']
      · exact (hcross o' c j hj' g2 g1).elim
      · exact (hcross o c j' hj g1 g2).elim
      · exact h.uniq o o' c g1 g2
    · intro o c h1 h2 off
      rcases hown o c h1 with ⟨j, hj, g1⟩ | ⟨hj, g1⟩
      · refine hw1.ownF j c g1 (fun ⟨n, k, e⟩ => h2 ⟨n, k, ?_⟩) off
        rw [hget o, hj]; simp [e, LObj.ren]
      · cases hv : (G.push G1 ids st.length).F c off with
        | none => rfl
        | some v =>
          obtain ⟨f1, f2⟩ := hfar o c hj g1
          have := hx1.newF c off v hv f1 f2
          rw [show (G.pull ids).F c off = G.F c off from rfl, h.ownF o c g1 (fun ⟨n, k, e⟩ => h2 ⟨n, k, by rw [hget o, hj]; exact e⟩) off] at this
          cases this
    · intro o x ho hx f
      rw [hget o] at ho
      simp only [hH']
      cases hs : src ids st.length o with
      | some j =>
        rw [hs] at ho
        simp only at ho ⊢
        cases hq : st1[j]? with
        | none => simp [hq] at ho
        | some y =>
          simp only [hq, Option.map_some, Option.some.injEq] at ho
          refine hw1.kind j y hq (fun n k e => ?_) f
          subst e
          exact hx n k ho.symm
      | none =>
        rw [hs] at ho
        exact h.kind o x ho hx f
  refine ⟨_, hwr, hren hv1, ⟨hle, hx1.os, hx1.tape, hx1.output, hx1.hsz, ?_, ?_, ?_, ?_, by rw [hlen']; omega⟩⟩
  · intro c hc ho
    exact hx1.unch c hc fun j hj => let ⟨o, _, h⟩ := hsub j c hj; ho o h
  · intro o c ho hc
    rcases hown o c ho with ⟨j, hj, g1⟩ | ⟨hj, g1⟩
    · obtain ⟨j', hj'⟩ := hx1.own j c g1 hc
      obtain ⟨o', _, ho'⟩ := hsub j' c hj'
      exact ⟨o', ho'⟩
    · exact ⟨o, g1⟩
  · intro c off v hv hc ho
    exact hx1.newF c off v hv hc fun j hj => let ⟨o, _, h⟩ := hsub j c hj; ho o h
  · intro o ho h1 h2
    have hm : o ∉ ids := fun hm => by
      rcases hreal o hm with r | ⟨f, r⟩
      · exact r h1
      · exact r (h2 f)
    have hs : src ids st.length o = none := by unfold src; rw [if_neg hm, if_pos ho]
    refine ⟨by rw [hget o, hs], by rw [hG', hs]; exact h1, fun f => by rw [hH', hs]; exact h2 f⟩

end Go.LS

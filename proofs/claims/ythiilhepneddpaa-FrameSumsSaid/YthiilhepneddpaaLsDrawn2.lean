/- Regions that draw their order: whatever the order, what LS's run says. -/
import Derived.Test.YthiilhepneddpaaLsDrawn
set_option linter.unusedVariables false
set_option linter.unusedSimpArgs false
namespace Go.LS

section
variable {P : Program} {call : CallF} {ops : Array Oper} {es : List DOp} {T : Nat → List LV} {S : Nat → List LObj} {V : Nat → LV} {G0 : Gh} {w0 : World}

theorem ll_set {L : Array Bool} {i j : Nat} (hi : i < L.size) : LL (L.setIfInBounds i true) j ↔ j = i ∨ LL L j := by
  unfold LL
  by_cases e : i = j
  · subst e; simp [hi]
  · rw [getD_set_ne false e]
    exact ⟨.inr, fun h => h.resolve_left (Ne.symm e)⟩

theorem Inv.next (hs : Sched P ops es) {L : Array Bool} {a : Act} {w : World} {m : Nat} {G : Gh} (h : Inv ops es T S V G0 w0 L a w m G)
    {p : Nat} {d : DOp} {o : Oper} (hp : es[p]? = some d) (ho : ops[d.idx]? = some o) (hdst : d.op.dst = o.dst) (hn : ¬ LL L d.idx) (hr : ∀ e ∈ o.after, Region.binds .any e = true → LL L e.on)
    {u : Value} {w' : World} {G' : Gh} {m' : Nat} (hle : G.le G') (hv : VL G' (V p) u) (mle : m' ≤ es.length)
    (hb : ∀ (q : Nat) e, q < m' → es[q]? = some e → e.cls = .c → LL L e.idx ∨ e.idx = d.idx) (ha : ∀ e, es[m']? = some e → e.cls = .c ∧ ¬ LL L e.idx ∧ e.idx ≠ d.idx)
    (hwr : WR G' (S m') w') (hx : Ext0 G0 (S 0) w0 G' (S m') w')
    (hpd : ∀ (q : Nat) e x, q < m' → es[q]? = some e → e.cls = .a → ¬ LL L e.idx → e.idx ≠ d.idx → S (q + 1) = S q ++ [x] → (S m')[(S q).length]? = some x ∧ G'.loc (S q).length = none ∧ ∀ f, G'.hist (S q).length f = none) :
    Inv ops es T S V G0 w0 (L.setIfInBounds d.idx true) (a.put o.dst u) w' m' G' := by
  have hi : d.idx < L.size := by rw [h.sz]; exact (Array.getElem?_eq_some_iff.1 ho).1
  refine ⟨by simp [h.sz], ?_, mle, ?_, ?_, hwr, hx, ?_, ?_, ?_, ?_⟩
  · intro i hl o' ho' e he hbd
    rw [ll_set hi] at hl ⊢
    rcases hl with rfl | hl
    · rw [ho] at ho'; cases ho'; exact .inr (hr e he hbd)
    · exact .inr (h.dn i hl o' ho' e he hbd)
  · intro q e hq he hc
    rw [ll_set hi]
    exact (hb q e hq he hc).symm
  · intro e he
    obtain ⟨a1, a2, a3⟩ := ha e he
    refine ⟨a1, fun hl => ?_⟩
    rw [ll_set hi] at hl
    rcases hl with hl | hl
    · exact a3 hl
    · exact a2 hl
  · intro q e x hq he hc hl hS
    rw [ll_set hi] at hl
    exact hpd q e x hq he hc (fun k => hl (.inr k)) (fun k => hl (.inl k)) hS
  · cases o.dst <;> simp [Act.put, h.tsz]
  · intro i hil q e he hl hde
    rw [ll_set hi] at hl
    by_cases e0 : e.idx = d.idx
    · obtain rfl := hs.inj q p e d he hp e0
      rw [hp] at he; cases he
      rw [hdst] at hde
      rw [hde]
      simp only [Act.put]
      rw [Array.getD_eq_getD_getElem?, Array.getElem?_setIfInBounds_self_of_lt (by rw [h.tsz]; exact hil)]
      exact hv
    · have h1 := (h.tm1 i hil q e he (hl.resolve_left e0) hde).mono hle
      cases hx : o.dst with
      | none => exact h1
      | some x =>
        simp only [Act.put]
        have hxi : x ≠ i := by
          rintro rfl
          obtain rfl := hs.dsts q p e d x he hp hde (by rw [hdst]; exact hx)
          rw [hp] at he; cases he; exact e0 rfl
        rw [Array.getD_eq_getD_getElem?, Array.getElem?_setIfInBounds_ne hxi, ← Array.getD_eq_getD_getElem?]
        exact h1
  · intro i hil hno
    have h1 := (h.tm2 i hil (fun q e he hl => hno q e he (by rw [ll_set hi]; exact .inr hl))).mono hle
    have h2 := hno p d hp (by rw [ll_set hi]; exact .inl rfl)
    cases hx : o.dst with
    | none => exact h1
    | some x =>
      simp only [Act.put]
      have hxi : x ≠ i := by
        rintro rfl
        exact h2 (by rw [hdst]; exact hx)
      rw [Array.getD_eq_getD_getElem?, Array.getElem?_setIfInBounds_ne hxi, ← Array.getD_eq_getD_getElem?]
      exact h1

theorem newOk_inv {st : List LObj} {x : LObj} (h : newOk st (st ++ [x]) = true) : (∃ es, x = .row es) ∨ (∃ kv, x = .map kv) := by
  unfold newOk at h
  rw [get_snoc] at h
  cases x with
  | row es => exact .inl ⟨_, rfl⟩
  | map kv => exact .inr ⟨_, rfl⟩
  | _ => cases h

theorem drawn_mk (hs : Sched P ops es) (tr : Trace call es T S V) : ∀ (p : Nat) (d : DOp), es[p]? = some d → d.cls = .a → S (p + 1) = S p ∨ ∃ x, S (p + 1) = S p ++ [x] := by
    intro p d hp hc
    obtain ⟨o, r, ho, hcm, hmk⟩ := hs.get p d hp
    have hrun := (tr.run p d hp).1
    unfold runOp at hrun
    split at hrun
    · refine .inr ?_
      have := hmk hc
      revert hrun this
      generalize d.op.op = op
      intro hrun this
      cases op <;> simp only [LOp.makes, Bool.false_eq_true] at this <;> simp only [opStep] at hrun
      case mkrow r' size len z parts =>
        subst this
        split at hrun
        · cases hrun
        · split at hrun
          · cases hrun
          · simp only [if_true, Option.some.injEq, Prod.mk.injEq] at hrun; exact ⟨_, hrun.2.symm⟩
      all_goals
        repeat' split at hrun
        all_goals first | (simp only [Option.some.injEq, Prod.mk.injEq] at hrun; exact ⟨_, hrun.2.symm⟩) | cases hrun
    · simp only [Option.some.injEq, Prod.mk.injEq] at hrun; exact .inl hrun.2.symm
    · cases hrun

theorem drawn_any (hok : CallOK P call) (hs : Sched P ops es) (tr : Trace call es T S V) {Q : Exit → Act → World → Prop} {df : List Deferred}
    (hQ : ∀ a' w' G', WR G' (S es.length) w' → TR G' (T es.length) a' → Ext0 G0 (S 0) w0 G' (S es.length) w' → a'.defers = df → Q .normal a' w') :
    ∀ (fuel : Nat) (L : Array Bool) (a : Act) (w : World) (m : Nat) (G : Gh) (done : List Nat), Inv ops es T S V G0 w0 L a w m G → done.Nodup → (∀ i ∈ done, i < ops.size ∧ LL L i) → done.length + fuel = ops.size →
      a.defers = df → wpAny P .any ops Q fuel L a w := by
  have fin : ∀ (L : Array Bool) (a : Act) (w : World) (m : Nat) (G : Gh), Inv ops es T S V G0 w0 L a w m G → (∀ i, i < ops.size → LL L i) → a.defers = df → Q .normal a w := by
    intro L a w m G h hall hdf
    have hm : m = es.length := by
      rcases Nat.lt_or_ge m es.length with hlt | hge
      · have hget : es[m]? = some es[m] := by simp [hlt]
        obtain ⟨o, r, ho, _⟩ := hs.get m _ hget
        exact absurd (hall _ (Array.getElem?_eq_some_iff.1 ho).1) (h.at_ _ hget).2
      · have := h.mle; omega
    subst hm
    obtain ⟨t1, t2⟩ := tr.tmps hs.dsts es.length (Nat.le_refl _)
    refine hQ a w G h.wr ⟨by rw [h.tsz, t1], fun i v hv => ?_⟩ h.ext hdf
    have hil : i < (T 0).length := by rw [← t1]; exact (List.getElem?_eq_some_iff.1 hv).1
    by_cases hw : ∃ (q : Nat) (e : DOp), es[q]? = some e ∧ e.op.dst = some i
    · obtain ⟨q, e, he, hd⟩ := hw
      have hq := (List.getElem?_eq_some_iff.1 he).1
      rw [(t2 i hil).1 q e hq he hd] at hv
      cases hv
      obtain ⟨o, r, ho, _⟩ := hs.get q e he
      exact h.tm1 i hil q e he (hall _ (Array.getElem?_eq_some_iff.1 ho).1) hd
    · rw [(t2 i hil).2 (fun q e _ he hd => hw ⟨q, e, he, hd⟩)] at hv
      have := h.tm2 i hil (fun q e he _ hd => hw ⟨q, e, he, hd⟩)
      rw [List.getD_eq_getElem?_getD, hv] at this
      exact this
  have hmk := drawn_mk hs tr
  intro fuel
  induction fuel with
  | zero =>
    intro L a w m G done h hnd hdone hlen hdf
    have hall : ∀ i, i < ops.size → LL L i := by
      intro i hi
      by_cases hm : i ∈ done
      · exact (hdone i hm).2
      · have := nodup_le ops.size (i :: done) (List.nodup_cons.2 ⟨hm, hnd⟩) (fun j hj => by
          rcases List.mem_cons.1 hj with rfl | hj
          · exact hi
          · exact (hdone j hj).1)
        simp at this
        omega
    refine ⟨List.eq_nil_iff_forall_not_mem.2 fun j hj => ?_, fin L a w m G h hall hdf⟩
    obtain ⟨h0, o, ho, _⟩ := mem_ready.1 hj
    have hlt := (Array.getElem?_eq_some_iff.1 ho).1
    have h1 := hall j hlt
    rw [LL, Array.getD_eq_getD_getElem?, Array.getElem?_eq_getElem (by rw [h.sz]; exact hlt)] at h1
    rw [Array.getD_eq_getD_getElem?, Array.getElem?_eq_getElem (by rw [h.sz]; exact hlt)] at h0
    simp at h0 h1
    rw [h0] at h1; cases h1
  | succ fuel ih =>
    intro L a w m G done h hnd hdone hlen hdf
    have hnll : ∀ j, j < ops.size → (L.getD j true = false ↔ ¬ LL L j) := by
      intro j hj
      unfold LL
      rw [Array.getD_eq_getD_getElem?, Array.getD_eq_getD_getElem?, Array.getElem?_eq_getElem (by rw [h.sz]; exact hj)]
      simp
    refine ⟨fun hnil => fin L a w m G h (fun i hi => ?_) hdf, fun i hi => ?_⟩
    · obtain ⟨p, d, hp, rfl⟩ := hs.all i hi
      have key : ∀ (p : Nat) (d : DOp), es[p]? = some d → LL L d.idx := by
        intro p
        induction p using Nat.strongRecOn with
        | _ p ihp =>
          intro d hp
          obtain ⟨o, r, ho, _⟩ := hs.get p d hp
          have hlt := (Array.getElem?_eq_some_iff.1 ho).1
          refine Classical.byContradiction fun hn => ?_
          have : d.idx ∈ Region.ready .any ops L := mem_ready.2 ⟨(hnll _ hlt).2 hn, o, ho, fun e he hb => by
            obtain ⟨q, d', hq, hd', e1⟩ := hs.topo p d o e hp ho he hb
            rw [← e1]; exact ihp q hq d' hd'⟩
          rw [hnil] at this
          cases this
      exact key p d hp
    · obtain ⟨h0, o, ho, hr⟩ := mem_ready.1 hi
      have hlt := (Array.getElem?_eq_some_iff.1 ho).1
      obtain ⟨p, d, hp, rfl⟩ := hs.all i hlt
      have hn : ¬ LL L d.idx := (hnll _ hlt).1 h0
      obtain ⟨o', r, ho', hcm, hmk'⟩ := hs.get p d hp
      rw [ho] at ho'; cases ho'
      obtain ⟨hdst, hguard, hcop⟩ := dst_of_comp hcm
      have hplt : p < es.length := (List.getElem?_eq_some_iff.1 hp).1
      -- no later than the next one that all wait for
      have hpm : p ≤ m := by
        rcases Nat.lt_or_ge m p with hgt | hle
        · exfalso
          have hget : es[m]? = some es[m] := by simp [show m < es.length by omega]
          obtain ⟨a1, a2⟩ := h.at_ _ hget
          obtain ⟨om, rm, hom, _⟩ := hs.get m _ hget
          exact a2 ((hs.ord m p _ d om o hgt hget hp hom ho (.inl a1)).done h.dn (fun o2 ho2 => by rw [ho] at ho2; cases ho2; exact hr))
        · exact hle
      have hread : ∀ j, j ∈ o.looksAt ops → VL G ((T p).getD j .und) (a.tmps.getD j undef) := fun j hj => h.reads hs tr hp ho hn hr hj
      have hxs : XsR G (T p) a o.op := by
        intro x hx y hy
        cases x with
        | tmp j =>
          simp only [compX] at hy; cases hy
          exact hread j (List.mem_append_left _ (List.mem_filterMap.2 ⟨.tmp j, by simpa using hx, rfl⟩))
        | const v =>
          simp only [compX] at hy
          split at hy <;> cases hy
          exact constLV_sound G ‹_›
        | func f =>
          simp only [compX] at hy; cases hy
          exact .fn _ #[] #[] rfl rfl (by simp) (by simp)
        | global g => simp [compX] at hy
      have hgd : ∀ b, gd (T p) d.op.guard = some b → Region.wanted o (yielded ops a.tmps) = b := by
        intro b hb
        refine gd_sound0 (G := G) (by rw [h.tsz, (tr.tmps hs.dsts p (by omega)).1]) hguard (fun j want x hg hx => ?_) hb
        exact hread x (List.mem_append_right _ (by simp [hg, hx]))
      have hnd' : (d.idx :: done).Nodup := List.nodup_cons.2 ⟨fun hm => hn (hdone _ hm).2, hnd⟩
      have hsz : d.idx < L.size := by rw [h.sz]; exact hlt
      -- on with the rest
      have go : ∀ u w' G' m', Inv ops es T S V G0 w0 (L.setIfInBounds d.idx true) (a.put o.dst u) w' m' G' → wpAny P .any ops Q fuel (L.setIfInBounds d.idx true) (a.put o.dst u) w' := by
        intro u w' G' m' hi'
        refine ih _ _ _ m' G' (d.idx :: done) hi' hnd' (fun j hj => ?_) (by simp; omega) (by cases o.dst <;> exact hdf)
        rcases List.mem_cons.1 hj with rfl | hj
        · exact ⟨hlt, by rw [ll_set hsz]; exact .inl rfl⟩
        · exact ⟨(hdone j hj).1, by rw [ll_set hsz]; exact .inr (hdone j hj).2⟩
      have hrun := (tr.run p d hp).1
      have hatc : ∀ e, es[m]? = some e → p < m → e.cls = .c ∧ ¬ LL L e.idx ∧ e.idx ≠ d.idx := fun e he hlt' =>
        ⟨(h.at_ e he).1, (h.at_ e he).2, fun hc => by have := hs.inj m p e d he hp hc; omega⟩
      unfold wpOp
      rw [ho]
      simp only
      rcases Nat.lt_or_ge p m with hpm' | hpm'
      · cases hcl : d.cls with
        | c => exact absurd (h.below p d hpm' hp hcl) hn
        | h =>
          have hheld := tr.held p d hp hcl m hpm' h.mle (fun q e h1 h2 he hc hmem => hn ((hs.must q e _ he hmem).done h.dn (fun o2 ho2 => h.dn _ (h.below q e h2 he hc) o2 ho2)))
          unfold runOp at hheld
          split at hheld
          · rename_i hg
            rw [if_pos (hgd _ hg)]
            refine .inl (op_sound hok hcop hheld h.wr hxs _ _ ?_)
            rintro u w' ⟨G', g1, g2, g3⟩
            refine go u w' G' m (h.next hs hp ho hdst hn hr g3.le g2 h.mle (fun q e h1 h2 h3 => .inl (h.below q e h1 h2 h3)) (fun e he => hatc e he hpm') g1 (h.ext.trans g3.to0) ?_)
            intro q e x hq he hc hl hne hS
            obtain ⟨b1, b2, b3⟩ := h.pend q e x hq he hc hl hS
            obtain ⟨c1, c2, c3⟩ := g3.pend _ (List.getElem?_eq_some_iff.1 b1).1 b2 b3
            exact ⟨b1, c2, c3⟩
          · rename_i hg
            have hw := hgd _ hg
            rw [if_neg (by rw [hw]; simp)]
            simp only [Option.some.injEq, Prod.mk.injEq] at hheld
            exact go undef w G m (h.next hs hp ho hdst hn hr (.refl G) (hheld.1 ▸ .unit G) h.mle (fun q e h1 h2 h3 => .inl (h.below q e h1 h2 h3)) (fun e he => hatc e he hpm') h.wr h.ext
              (fun q e x hq he hc hl hne hS => h.pend q e x hq he hc hl hS))
          · cases hheld
        | a =>
          have hnew := tr.new p d hp hcl
          unfold runOp at hrun
          split at hrun
          · rename_i hg
            rw [if_pos (hgd _ hg)]
            obtain ⟨x, hx, hms⟩ := maker_sound (w := w) (hmk' hcl) hcop hrun hxs
            rw [hx] at hnew
            obtain ⟨b1, b2, b3⟩ := h.pend p d x hpm' hp hcl hn hx
            refine .inl (hms (newOk_inv hnew) _ _ ?_)
            rintro u w' ⟨l, ob, n1, rfl, n3⟩
            obtain ⟨r1, r2⟩ := h.wr.place b1 b2 b3 l ob n1
            refine go u _ _ m (h.next hs hp ho hdst hn hr r2.le n3 h.mle (fun q e h1 h2 h3 => .inl (h.below q e h1 h2 h3)) (fun e he => hatc e he hpm') r1 (h.ext.trans r2) ?_)
            intro q e y hq he hc hl hne hS
            obtain ⟨c1, c2, c3⟩ := h.pend q e y hq he hc hl hS
            refine ⟨c1, ?_, c3⟩
            have hqp : q ≠ p := by rintro rfl; rw [hp] at he; cases he; exact hne rfl
            have hlen : (S q).length ≠ (S p).length := by
              have hmono : ∀ j k, j ≤ k → k ≤ es.length → (S j).length ≤ (S k).length := by
                intro j k hjk hk
                induction hjk with
                | refl => exact Nat.le_refl _
                | @step k hjk ihk =>
                  refine Nat.le_trans (ihk (by omega)) ?_
                  have hget : es[k]? = some es[k] := by simp [show k < es.length by omega]
                  cases hck : es[k].cls with
                  | h => rw [pure_store (tr.pure k _ hget hck) (tr.run k _ hget).1]; exact Nat.le_refl _
                  | a => rcases hmk k _ hget hck with e | ⟨y, e⟩ <;> rw [e] <;> simp
                  | c => exact tr.len k _ hget hck
              rcases Nat.lt_or_ge q p with hlt' | hge'
              · have := hmono (q + 1) p (by omega) (by omega)
                rw [hS] at this; simp at this; omega
              · have := hmono (p + 1) q (by omega) (by have := h.mle; omega)
                rw [hx] at this; simp at this; omega
            simp [Gh.addLoc, hlen, c2]
          · rename_i hg
            have hw := hgd _ hg
            rw [if_neg (by rw [hw]; simp)]
            simp only [Option.some.injEq, Prod.mk.injEq] at hrun
            exact go undef w G m (h.next hs hp ho hdst hn hr (.refl G) (hrun.1 ▸ .unit G) h.mle (fun q e h1 h2 h3 => .inl (h.below q e h1 h2 h3)) (fun e he => hatc e he hpm') h.wr h.ext
              (fun q e x hq he hc hl hne hS => h.pend q e x hq he hc hl hS))
          · cases hrun
      · obtain rfl : p = m := by omega
        have hcl := (h.at_ d hp).1
        have rest : ∀ u w' G', WR G' (S (p + 1)) w' → VL G' (V p) u → Ext0 G (S p) w G' (S (p + 1)) w' → (∀ (q : Nat) e x, q < p → es[q]? = some e → e.cls = .a → ¬ LL L e.idx → S (q + 1) = S q ++ [x] → (S (p + 1))[(S q).length]? = some x ∧ G'.loc (S q).length = none ∧ ∀ f, G'.hist (S q).length f = none) →
            wpAny P .any ops Q fuel (L.setIfInBounds d.idx true) (a.put o.dst u) w' := by
          intro u w' G' g1 g2 g3 g4
          obtain ⟨m', a1, a2, a3, a4, a5, a6, a7⟩ := advance (G0 := G0) (w0 := w0) (L := L) tr hmk (es.length - (p + 1)) (p + 1) rfl (by omega) g1 (h.ext.trans g3) (fun q e x hq he hc hl hS => by
            rcases Nat.lt_or_ge q p with hq' | hq'
            · exact g4 q e x hq' he hc hl hS
            · obtain rfl : q = p := by omega
              rw [hp] at he; cases he; rw [hcl] at hc; cases hc)
          refine go u w' G' m' (h.next hs hp ho hdst hn hr g3.le g2 a2 (fun q e hq he hc => ?_) (fun e he => ?_) a5 a6 (fun q e x hq he hc hl hne hS => a7 q e x hq he hc hl hS))
          · rcases Nat.lt_trichotomy q p with hq' | rfl | hq'
            · exact .inl (h.below q e hq' he hc)
            · rw [hp] at he; cases he; exact .inr rfl
            · exact absurd hc (a3 q e hq' hq he)
          · refine ⟨a4 e he, fun hl => ?_, fun hc => by have := hs.inj m' p e d he hp hc; omega⟩
            obtain ⟨oe, re, hoe, _⟩ := hs.get m' e he
            exact hn ((hs.ord p m' d e o oe (by omega) hp he ho hoe (.inl hcl)).done h.dn (fun o2 ho2 => h.dn _ hl o2 ho2))
        unfold runOp at hrun
        split at hrun
        · rename_i hg
          rw [if_pos (hgd _ hg)]
          refine .inl (op_sound hok hcop hrun h.wr hxs _ _ ?_)
          rintro u w' ⟨G', g1, g2, g3⟩
          refine rest u w' G' g1 g2 g3.to0 (fun q e x hq he hc hl hS => ?_)
          obtain ⟨b1, b2, b3⟩ := h.pend q e x hq he hc hl hS
          obtain ⟨c1, c2, c3⟩ := g3.pend _ (List.getElem?_eq_some_iff.1 b1).1 b2 b3
          exact ⟨by rw [c1]; exact b1, c2, c3⟩
        · rename_i hg
          have hw := hgd _ hg
          rw [if_neg (by rw [hw]; simp)]
          simp only [Option.some.injEq, Prod.mk.injEq] at hrun
          obtain ⟨e1, e2⟩ := hrun
          exact rest undef w G (e2 ▸ h.wr) (e1 ▸ .unit G) (e2 ▸ (Ext.refl ..).to0) (fun q e x hq he hc hl hS => e2 ▸ h.pend q e x hq he hc hl hS)
        · cases hrun

end
end Go.LS

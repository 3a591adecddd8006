/- Regions that draw their order. -/
import Derived.Test.YthiilhepneddpaaLsMake
import Derived.Test.YthiilhepneddpaaLsRun2
set_option linter.unusedVariables false
set_option linter.unusedSimpArgs false
namespace Go.LS

/-! What must have been done ahead. -/
inductive Dep (ops : Array Oper) : Nat → Nat → Prop where
  | one {j : Nat} {o : Oper} {e : Edge} (h1 : ops[j]? = some o) (h2 : e ∈ o.after) (h3 : Region.binds .any e = true) : Dep ops j e.on
  | more {j : Nat} {o : Oper} {e : Edge} {i : Nat} (h1 : ops[j]? = some o) (h2 : e ∈ o.after) (h3 : Region.binds .any e = true) (h : Dep ops e.on i) : Dep ops j i

def depB (ops : Array Oper) : Nat → Nat → Nat → Bool
  | 0, _, _ => false
  | n + 1, j, i => match ops[j]? with
    | some o => o.after.toList.any fun e => Region.binds .any e && (e.on == i || depB ops n e.on i)
    | none => false

theorem depB_sound {ops : Array Oper} : ∀ {n j i : Nat}, depB ops n j i = true → Dep ops j i
  | 0, _, _, h => by simp [depB] at h
  | n + 1, j, i, h => by
    simp only [depB] at h
    split at h
    · rename_i o ho
      obtain ⟨e, he, hb⟩ := List.any_eq_true.1 h
      simp only [Bool.and_eq_true, Bool.or_eq_true, beq_iff_eq] at hb
      rcases hb.2 with rfl | hd
      · exact .one ho (by simpa using he) hb.1
      · exact .more ho (by simpa using he) hb.1 (depB_sound hd)
    · cases h

theorem Dep.done {ops : Array Oper} {L : Array Bool} (hd : ∀ i, L.getD i false = true → ∀ o, ops[i]? = some o → ∀ e ∈ o.after, Region.binds .any e = true → L.getD e.on false = true)
    {j i : Nat} (h : Dep ops j i) (hj : ∀ o, ops[j]? = some o → ∀ e ∈ o.after, Region.binds .any e = true → L.getD e.on false = true) : L.getD i false = true := by
  induction h with
  | one h1 h2 h3 => exact hj _ h1 _ h2 h3
  | more h1 h2 h3 _ ih => exact ih (fun o ho e he hb => hd _ (hj _ h1 _ h2 h3) o ho e he hb)

/-- One must not pass the other. -/
def conflict (ops : Array Oper) (x y : Oper) : Prop :=
  (∃ d, x.dst = some d ∧ d ∈ y.looksAt ops) ∨ (∃ d, y.dst = some d ∧ d ∈ x.looksAt ops)

structure Sched (P : Program) (ops : Array Oper) (es : List DOp) : Prop where
  get : ∀ (p : Nat) (d : DOp), es[p]? = some d → ∃ o r, ops[d.idx]? = some o ∧ compOper P r ops o = some d.op ∧ (d.cls = .a → d.op.op.makes = true)
  all : ∀ i, i < ops.size → ∃ (p : Nat) (d : DOp), es[p]? = some d ∧ d.idx = i
  inj : ∀ (p q : Nat) (d e : DOp), es[p]? = some d → es[q]? = some e → d.idx = e.idx → p = q
  dsts : ∀ (p q : Nat) (d e : DOp) (x : Nat), es[p]? = some d → es[q]? = some e → d.op.dst = some x → e.op.dst = some x → p = q
  ord : ∀ (p q : Nat) (d e : DOp) (o o' : Oper), p < q → es[p]? = some d → es[q]? = some e → ops[d.idx]? = some o → ops[e.idx]? = some o' → d.cls = .c ∨ conflict ops o o' → Dep ops e.idx d.idx
  must : ∀ (q : Nat) (e : DOp) (i : Nat), es[q]? = some e → i ∈ e.must → Dep ops e.idx i
  topo : ∀ (p : Nat) (d : DOp) (o : Oper) (e : Edge), es[p]? = some d → ops[d.idx]? = some o → e ∈ o.after → Region.binds .any e = true → ∃ (q : Nat) (d' : DOp), q < p ∧ es[q]? = some d' ∧ d'.idx = e.on

/-! The run of LS, step by step. -/
theorem pure_store {call : CallF} {t : List LV} {st st' : List LObj} {o : LOper} {v : LV} (hp : pureV o.op v = true) (hr : runOp call t st o = some (v, st')) : st' = st := by
  unfold runOp at hr
  split at hr
  · revert hr hp
    generalize o.op = op
    intro hp hr
    cases op <;> simp only [pureV, Bool.false_eq_true] at hp
    case mkrow r size len z parts =>
      simp only [Bool.and_eq_true, Bool.not_eq_true'] at hp
      simp only [opStep, hp.1] at hr
      split at hr
      · cases hr
      · split at hr
        · cases hr
        · simp only [Bool.false_eq_true, if_false] at hr
          split at hr <;> cases hr
          · rfl
          · simp at hp
    all_goals
      simp only [opStep] at hr
      first
        | (cases hr; rfl)
        | (repeat' split at hr
           all_goals first | (cases hr; rfl) | cases hr)
  · cases hr; rfl
  · cases hr

/-- What looks at nothing of the store tells the same of any. -/
theorem stat_any {call : CallF} {t : List LV} {st st' st2 : List LObj} {o : LOper} {v : LV} (hp : pureV o.op v = true) (hs : statB t o.op = true) (hr : runOp call t st o = some (v, st')) : runOp call t st2 o = some (v, st2) := by
  unfold runOp at hr ⊢
  split at hr
  · revert hr hp hs
    generalize o.op = op
    intro hp hs hr
    cases op <;> simp only [pureV, Bool.false_eq_true] at hp <;> simp only [statB, Bool.false_eq_true] at hs
    case mkrow r size len z parts =>
      simp only [Bool.and_eq_true, Bool.not_eq_true'] at hp
      simp only [opStep, hp.1] at hr ⊢
      split at hr
      · cases hr
      · rename_i ps e1
        split at hr
        · cases hr
        · rename_i es e2
          simp only [Bool.false_eq_true, if_false] at hr
          split at hr <;> cases hr
          · rename_i qs e3
            simp [e1, e2, e3]
          · simp at hp
    case indexAddr size x i =>
      simp only [opStep] at hr ⊢
      split at hr
      · cases hr
      · rename_i n hn
        split at hr
        · cases hr
        · rename_i h0
          rw [if_neg h0]
          revert hs hr
          generalize x.ev t = xv
          intro hs hr
          split at hr
          · simp [LV.isRs] at hs
          · split at hr
            · rename_i h1
              split at hr
              · rename_i h2
                split at hr <;> cases hr
                rename_i h3
                rw [if_pos h3]
              · cases hr
            · cases hr
    case len x =>
      simp only [opStep] at hr ⊢
      revert hs hr
      generalize x.ev t = xv
      intro hs hr
      split at hr
      · simp [LV.isRs] at hs
      · split at hr
        · rename_i h1
          cases hr
          simp only [h1]
        · cases hr
    case slice size x lo hi mx =>
      simp only [opStep] at hr ⊢
      have : rslice size st2 (x.ev t) (lo.map (LX.ev t)) (hi.map (LX.ev t)) (mx.map (LX.ev t)) = rslice size st (x.ev t) (lo.map (LX.ev t)) (hi.map (LX.ev t)) (mx.map (LX.ev t)) := by
        revert hs
        generalize x.ev t = xv
        intro hs
        cases xv <;> first | rfl | (rename_i es; cases es <;> rfl; done) | simp [LV.isRs] at hs
      rw [this]
      split at hr <;> cases hr
      rename_i h1
      simp only [h1]
    case mx x y =>
      simp only [opStep] at hr ⊢
      split at hr
      · simp only [Option.some.injEq, Prod.mk.injEq] at hr ⊢
        exact ⟨hr.1, trivial⟩
      · cases hr
    case mn x y =>
      simp only [opStep] at hr ⊢
      split at hr
      · simp only [Option.some.injEq, Prod.mk.injEq] at hr ⊢
        exact ⟨hr.1, trivial⟩
      · cases hr
    all_goals
      simp only [opStep] at hr ⊢
      first
        | (cases hr; rfl)
        | (repeat' split at hr
           all_goals first | (simp only [Option.some.injEq, Prod.mk.injEq] at hr; simp only [hr.1]; done) | (cases hr; simp_all; done) | cases hr)
  · cases hr; rfl
  · cases hr

theorem heldOk_inv {call : CallF} {st : List LObj} {held : List (DOp × List LV × LV)} (h : heldOk call st held = true) (hp : ∀ x ∈ held, pureV x.1.op.op x.2.2 = true) :
    ∀ x ∈ held, runOp call x.2.1 st x.1.op = some (x.2.2, st) := by
  intro x hx
  have := List.all_eq_true.1 h x hx
  split at this
  · rename_i v s hr
    have e := LV.eq_of_eqb _ _ this
    subst e
    rw [hr, pure_store (hp x hx) hr]
  · cases this

structure Trace (call : CallF) (es : List DOp) (T : Nat → List LV) (S : Nat → List LObj) (V : Nat → LV) : Prop where
  run : ∀ (p : Nat) (d : DOp), es[p]? = some d → runOp call (T p) (S p) d.op = some (V p, S (p + 1)) ∧ T (p + 1) = putT (T p) d.op.dst (V p)
  pure : ∀ (p : Nat) (d : DOp), es[p]? = some d → d.cls = .h → pureV d.op.op (V p) = true
  new : ∀ (p : Nat) (d : DOp), es[p]? = some d → d.cls = .a → newOk (S p) (S (p + 1)) = true
  len : ∀ (p : Nat) (d : DOp), es[p]? = some d → d.cls = .c → (S p).length ≤ (S (p + 1)).length
  held : ∀ (p : Nat) (d : DOp), es[p]? = some d → d.cls = .h → ∀ m, p < m → m ≤ es.length → (∀ (q : Nat) e, p < q → q < m → es[q]? = some e → e.cls = .c → d.idx ∉ e.must) → runOp call (T p) (S m) d.op = some (V p, S m)

theorem runDrawn_trace {call : CallF} : ∀ (es : List DOp) (held : List (DOp × List LV × LV)) (t t' : List LV) (st st' : List LObj), runDrawn call es held t st = some (t', st') →
    (∀ x ∈ held, pureV x.1.op.op x.2.2 = true ∧ runOp call x.2.1 st x.1.op = some (x.2.2, st)) →
    ∃ T S V, Trace call es T S V ∧ T 0 = t ∧ S 0 = st ∧ T es.length = t' ∧ S es.length = st' ∧
      ∀ x ∈ held, ∀ m, m ≤ es.length → (∀ (q : Nat) e, q < m → es[q]? = some e → e.cls = .c → x.1.idx ∉ e.must) → runOp call x.2.1 (S m) x.1.op = some (x.2.2, S m)
  | [], held, t, t', st, st', hr, hh => by
    simp only [runDrawn] at hr; cases hr
    exact ⟨fun _ => t, fun _ => st, fun _ => .und, ⟨by simp, by simp, by simp, by simp, by simp⟩, rfl, rfl, rfl, rfl, fun x hx m _ _ => (hh x hx).2⟩
  | d :: r, held, t, t', st, st', hr, hh => by
    simp only [runDrawn] at hr
    split at hr
    · cases hr
    · rename_i v st1 hstep
      have fin : ∀ (held' : List (DOp × List LV × LV)), runDrawn call r held' (putT t d.op.dst v) st1 = some (t', st') → (∀ x ∈ held', pureV x.1.op.op x.2.2 = true ∧ runOp call x.2.1 st1 x.1.op = some (x.2.2, st1)) →
          (d.cls = .h → pureV d.op.op v = true ∧ (statB t d.op.op = true ∨ (d, t, v) ∈ held')) → (d.cls = .a → newOk st st1 = true) → (d.cls = .c → st.length ≤ st1.length) →
          (∀ x ∈ held, x ∈ held' ∨ (d.cls = .c ∧ x.1.idx ∈ d.must)) →
          ∃ T S V, Trace call (d :: r) T S V ∧ T 0 = t ∧ S 0 = st ∧ T (d :: r).length = t' ∧ S (d :: r).length = st' ∧
            ∀ x ∈ held, ∀ m, m ≤ (d :: r).length → (∀ (q : Nat) e, q < m → (d :: r)[q]? = some e → e.cls = .c → x.1.idx ∉ e.must) → runOp call x.2.1 (S m) x.1.op = some (x.2.2, S m) := by
        intro held' hr' h1 h2 h3 h3' h4
        obtain ⟨T, S, V, tr, e1, e2, e3, e4, e5⟩ := runDrawn_trace r held' _ _ _ _ hr' h1
        refine ⟨fun | 0 => t | p + 1 => T p, fun | 0 => st | p + 1 => S p, fun | 0 => v | p + 1 => V p, ⟨?_, ?_, ?_, ?_, ?_⟩, rfl, rfl, e3, e4, ?_⟩
        · intro p e he
          cases p with
          | zero => simp at he; subst he; exact ⟨by show runOp call t st d.op = some (v, S 0); rw [e2]; exact hstep, e1⟩
          | succ p => exact tr.run p e (by simpa using he)
        · intro p e he hc
          cases p with
          | zero => simp at he; subst he; exact (h2 hc).1
          | succ p => exact tr.pure p e (by simpa using he) hc
        · intro p e he hc
          cases p with
          | zero => simp at he; subst he; show newOk st (S 0) = true; rw [e2]; exact h3 hc
          | succ p => exact tr.new p e (by simpa using he) hc
        · intro p e he hc
          cases p with
          | zero => simp at he; subst he; show st.length ≤ (S 0).length; rw [e2]; exact h3' hc
          | succ p => exact tr.len p e (by simpa using he) hc
        · intro p e he hc m hpm hm hq
          cases m with
          | zero => omega
          | succ m =>
            cases p with
            | zero =>
              simp at he; subst he
              rcases (h2 hc).2 with hst | hmem
              · exact stat_any (h2 hc).1 hst hstep
              · exact e5 _ hmem m (by simpa using hm) (fun q e hqm he hec => hq (q + 1) e (by omega) (by omega) (by simpa using he) hec)
            | succ p =>
              exact tr.held p e (by simpa using he) hc m (by omega) (by simpa using hm) (fun q e' h1 h2 he' hec => hq (q + 1) e' (by omega) (by omega) (by simpa using he') hec)
        · intro x hx m hm hq
          cases m with
          | zero => exact (hh x hx).2
          | succ m =>
            rcases h4 x hx with h4 | ⟨h4, h5⟩
            · exact e5 x h4 m (by simpa using hm) (fun q e hqm he hec => hq (q + 1) e (by omega) (by simpa using he) hec)
            · exact absurd h5 (hq 0 d (by omega) rfl h4)
      split at hr
      · rename_i hc
        split at hr
        · rename_i hp
          have := pure_store hp hstep
          subst this
          refine fin _ hr (fun x hx => ?_) (fun _ => ⟨hp, ?_⟩) (by simp [hc]) (by simp [hc]) (fun x hx => .inl (by split <;> simp [hx]))
          · split at hx
            · exact hh x hx
            · rcases List.mem_cons.1 hx with rfl | hx
              · exact ⟨hp, hstep⟩
              · exact hh x hx
          · split
            · rename_i hst; exact .inl hst
            · exact .inr (by simp)
        · cases hr
      · rename_i hc
        split at hr
        · rename_i hk
          simp only [Bool.and_eq_true] at hk
          exact fin _ hr (fun x hx => ⟨(hh x hx).1, heldOk_inv hk.2 (fun y hy => (hh y hy).1) x hx⟩) (by simp [hc]) (fun _ => hk.1) (by simp [hc]) (fun x hx => .inl hx)
        · cases hr
      · rename_i hc
        split at hr
        · rename_i hk
          simp only [Bool.and_eq_true, decide_eq_true_eq] at hk
          refine fin _ hr (fun x hx => ⟨(hh x (List.mem_filter.1 hx).1).1, heldOk_inv hk.2 (fun y hy => (hh y (List.mem_filter.1 hy).1).1) x hx⟩) (by simp [hc]) (by simp [hc]) (fun _ => hk.1) (fun x hx => ?_)
          by_cases hm : x.1.idx ∈ d.must
          · exact .inr ⟨hc, hm⟩
          · exact .inl (List.mem_filter.2 ⟨hx, by simpa using hm⟩)
        · cases hr

/-- The temporaries of LS along its run. -/
theorem Trace.tmps {call : CallF} {es : List DOp} {T : Nat → List LV} {S : Nat → List LObj} {V : Nat → LV} (tr : Trace call es T S V)
    (hd : ∀ (p q : Nat) (d e : DOp) (x : Nat), es[p]? = some d → es[q]? = some e → d.op.dst = some x → e.op.dst = some x → p = q) :
    ∀ p, p ≤ es.length → (T p).length = (T 0).length ∧ ∀ i, i < (T 0).length →
      (∀ (q : Nat) d, q < p → es[q]? = some d → d.op.dst = some i → (T p)[i]? = some (V q)) ∧ ((∀ (q : Nat) d, q < p → es[q]? = some d → d.op.dst ≠ some i) → (T p)[i]? = (T 0)[i]?) := by
  intro p
  induction p with
  | zero => intro _; exact ⟨rfl, fun i _ => ⟨fun q _ h => by omega, fun _ => rfl⟩⟩
  | succ p ih =>
    intro hp
    obtain ⟨h1, h2⟩ := ih (by omega)
    have hlt : p < es.length := by omega
    have hget : es[p]? = some es[p] := by simp [hlt]
    obtain ⟨_, ht⟩ := tr.run p _ hget
    rw [ht]
    refine ⟨by cases es[p].op.dst <;> simp [putT, h1], fun i hi => ⟨fun q d hq hd' hdst => ?_, fun hn => ?_⟩⟩
    · by_cases e : q = p
      · subst e
        rw [hget] at hd'; cases hd'
        simp only [hdst, putT]
        rw [List.getElem?_set_self (by omega)]
      · have h3 := (h2 i hi).1 q d (by omega) hd' hdst
        cases hx : es[p].op.dst with
        | none => exact h3
        | some x =>
          simp only [putT]
          by_cases hxi : x = i
          · subst hxi
            exact absurd (hd q p d es[p] x hd' hget hdst hx) e
          · rw [List.getElem?_set_ne hxi]; exact h3
    · have h3 := (h2 i hi).2 (fun q d hq => hn q d (by omega))
      have h4 := hn p _ (by omega) hget
      cases hx : es[p].op.dst with
      | none => exact h3
      | some x =>
        simp only [putT]
        by_cases hxi : x = i
        · subst hxi; exact absurd hx h4
        · rw [List.getElem?_set_ne hxi]; exact h3

/-! The machine's run, in any order. -/
theorem nodup_le : ∀ (n : Nat) (l : List Nat), l.Nodup → (∀ i ∈ l, i < n) → l.length ≤ n
  | 0, l, _, h => by
    cases l with
    | nil => simp
    | cons x l => exact absurd (h x (by simp)) (by omega)
  | n + 1, l, hn, h => by
    have := nodup_le n (l.erase n) (hn.erase n) (fun i hi => by
      have := (hn.mem_erase_iff).1 hi
      have := h i this.2
      omega)
    by_cases hm : n ∈ l
    · rw [List.length_erase_of_mem hm] at this; omega
    · rw [List.erase_of_not_mem hm] at this; omega

section
variable {P : Program} {call : CallF} {ops : Array Oper} {es : List DOp} {T : Nat → List LV} {S : Nat → List LObj} {V : Nat → LV} {G0 : Gh} {w0 : World}

abbrev LL (L : Array Bool) (i : Nat) : Prop := L.getD i false = true

structure Inv (ops : Array Oper) (es : List DOp) (T : Nat → List LV) (S : Nat → List LObj) (V : Nat → LV) (G0 : Gh) (w0 : World) (L : Array Bool) (a : Act) (w : World) (m : Nat) (G : Gh) : Prop where
  sz : L.size = ops.size
  dn : ∀ i, LL L i → ∀ o, ops[i]? = some o → ∀ e ∈ o.after, Region.binds .any e = true → LL L e.on
  mle : m ≤ es.length
  below : ∀ (p : Nat) d, p < m → es[p]? = some d → d.cls = .c → LL L d.idx
  at_ : ∀ d, es[m]? = some d → d.cls = .c ∧ ¬ LL L d.idx
  wr : WR G (S m) w
  ext : Ext0 G0 (S 0) w0 G (S m) w
  pend : ∀ (p : Nat) d x, p < m → es[p]? = some d → d.cls = .a → ¬ LL L d.idx → S (p + 1) = S p ++ [x] → (S m)[(S p).length]? = some x ∧ G.loc (S p).length = none ∧ ∀ f, G.hist (S p).length f = none
  tsz : a.tmps.size = (T 0).length
  tm1 : ∀ i, i < (T 0).length → ∀ (p : Nat) (d : DOp), es[p]? = some d → LL L d.idx → d.op.dst = some i → VL G (V p) (a.tmps.getD i undef)
  tm2 : ∀ i, i < (T 0).length → (∀ (p : Nat) (d : DOp), es[p]? = some d → LL L d.idx → d.op.dst ≠ some i) → VL G ((T 0).getD i .und) (a.tmps.getD i undef)

theorem dst_of_comp {r : Bool} {o : Oper} {lo : LOper} (h : compOper P r ops o = some lo) : lo.dst = o.dst ∧ compGuard ops o = some lo.guard ∧ compOp P r o.op = some lo.op := by
  unfold compOper at h
  split at h
  · cases h; exact ⟨rfl, ‹_›, ‹_›⟩
  · cases h

/-- What an operation that is ready looks at. -/
theorem Inv.reads (hs : Sched P ops es) (tr : Trace call es T S V) {L : Array Bool} {a : Act} {w : World} {m : Nat} {G : Gh} (h : Inv ops es T S V G0 w0 L a w m G)
    {p : Nat} {d : DOp} {o : Oper} (hp : es[p]? = some d) (ho : ops[d.idx]? = some o) (hn : ¬ LL L d.idx) (hr : ∀ e ∈ o.after, Region.binds .any e = true → LL L e.on) {i : Nat} (hi : i ∈ o.looksAt ops) :
    VL G ((T p).getD i .und) (a.tmps.getD i undef) := by
  have hlt : p < es.length := (List.getElem?_eq_some_iff.1 hp).1
  obtain ⟨t1, t2⟩ := tr.tmps hs.dsts p (by omega)
  by_cases hil : i < (T 0).length
  · by_cases hw : ∃ (q : Nat) (e : DOp), q < p ∧ es[q]? = some e ∧ e.op.dst = some i
    · obtain ⟨q, e, hqp, hq, hdst⟩ := hw
      obtain ⟨o', r', ho', hc', _⟩ := hs.get q e hq
      have hdep := hs.ord q p e d o' o hqp hq hp ho' ho (.inr (.inl ⟨i, by rw [← (dst_of_comp hc').1]; exact hdst, hi⟩))
      have hl := hdep.done h.dn (fun o2 ho2 => by rw [ho] at ho2; cases ho2; exact hr)
      have := h.tm1 i hil q e hq hl hdst
      have e2 := ((t2 i hil).1 q e hqp hq hdst)
      rw [List.getD_eq_getElem?_getD, e2]
      exact this
    · have e2 := (t2 i hil).2 (fun q e hq he hx => hw ⟨q, e, hq, he, hx⟩)
      rw [List.getD_eq_getElem?_getD, e2, ← List.getD_eq_getElem?_getD]
      refine h.tm2 i hil (fun q e hq hl hdst => ?_)
      rcases Nat.lt_trichotomy q p with hqp | rfl | hqp
      · exact hw ⟨q, e, hqp, hq, hdst⟩
      · rw [hp] at hq; cases hq; exact hn hl
      · obtain ⟨o', r', ho', hc', _⟩ := hs.get q e hq
        have hdep := hs.ord p q d e o o' hqp hp hq ho ho' (.inr (.inr ⟨i, by rw [← (dst_of_comp hc').1]; exact hdst, hi⟩))
        exact hn (hdep.done h.dn (fun o2 ho2 => h.dn _ hl o2 ho2))
  · rw [List.getD_eq_getElem?_getD, List.getElem?_eq_none (by omega)]
    exact .und _

/-- Up to the next one that all wait for. -/
theorem advance (tr : Trace call es T S V) (hmk : ∀ (p : Nat) (d : DOp), es[p]? = some d → d.cls = .a → S (p + 1) = S p ∨ ∃ x, S (p + 1) = S p ++ [x]) {L : Array Bool} {w : World} {G : Gh} :
    ∀ (k m : Nat), es.length - m = k → m ≤ es.length → WR G (S m) w → Ext0 G0 (S 0) w0 G (S m) w →
      (∀ (p : Nat) d x, p < m → es[p]? = some d → d.cls = .a → ¬ LL L d.idx → S (p + 1) = S p ++ [x] → (S m)[(S p).length]? = some x ∧ G.loc (S p).length = none ∧ ∀ f, G.hist (S p).length f = none) →
      ∃ m', m ≤ m' ∧ m' ≤ es.length ∧ (∀ (q : Nat) e, m ≤ q → q < m' → es[q]? = some e → e.cls ≠ .c) ∧ (∀ e, es[m']? = some e → e.cls = .c) ∧ WR G (S m') w ∧ Ext0 G0 (S 0) w0 G (S m') w ∧
        (∀ (p : Nat) d x, p < m' → es[p]? = some d → d.cls = .a → ¬ LL L d.idx → S (p + 1) = S p ++ [x] → (S m')[(S p).length]? = some x ∧ G.loc (S p).length = none ∧ ∀ f, G.hist (S p).length f = none) := by
  intro k
  induction k with
  | zero =>
    intro m hk hm h hx hp
    exact ⟨m, Nat.le_refl _, hm, fun q e h1 h2 => by omega, fun e he => by have := (List.getElem?_eq_some_iff.1 he).1; omega, h, hx, hp⟩
  | succ k ih =>
    intro m hk hm h hx hp
    have hlt : m < es.length := by omega
    have hget : es[m]? = some es[m] := by simp [hlt]
    by_cases hc : es[m].cls = .c
    · exact ⟨m, Nat.le_refl _, hm, fun q e h1 h2 => by omega, fun e he => by rw [hget] at he; cases he; exact hc, h, hx, hp⟩
    · have step : (S (m + 1) = S m ∨ ∃ x, es[m].cls = .a ∧ S (m + 1) = S m ++ [x]) := by
        cases hcl : es[m].cls with
        | h => exact .inl (pure_store (tr.pure m _ hget hcl) (tr.run m _ hget).1)
        | a =>
          rcases hmk m _ hget hcl with e | ⟨x, e⟩
          · exact .inl e
          · exact .inr ⟨x, rfl, e⟩
        | c => exact absurd hcl hc
      have close : WR G (S (m + 1)) w → Ext0 G0 (S 0) w0 G (S (m + 1)) w → (∀ (p : Nat) d x, p < m + 1 → es[p]? = some d → d.cls = .a → ¬ LL L d.idx → S (p + 1) = S p ++ [x] → (S (m + 1))[(S p).length]? = some x ∧ G.loc (S p).length = none ∧ ∀ f, G.hist (S p).length f = none) →
          ∃ m', m ≤ m' ∧ m' ≤ es.length ∧ (∀ (q : Nat) e, m ≤ q → q < m' → es[q]? = some e → e.cls ≠ .c) ∧ (∀ e, es[m']? = some e → e.cls = .c) ∧ WR G (S m') w ∧ Ext0 G0 (S 0) w0 G (S m') w ∧
            (∀ (p : Nat) d x, p < m' → es[p]? = some d → d.cls = .a → ¬ LL L d.idx → S (p + 1) = S p ++ [x] → (S m')[(S p).length]? = some x ∧ G.loc (S p).length = none ∧ ∀ f, G.hist (S p).length f = none) := by
        intro h1 h2 h3
        obtain ⟨m', a1, a2, a3, a4, a5, a6, a7⟩ := ih (m + 1) (by omega) hlt h1 h2 h3
        refine ⟨m', by omega, a2, fun q e b1 b2 he => ?_, a4, a5, a6, a7⟩
        by_cases e' : q = m
        · subst e'; rw [hget] at he; cases he; exact hc
        · exact a3 q e (by omega) b2 he
      rcases step with e | ⟨x, hca, e⟩
      · refine close (e ▸ h) (e ▸ hx) (fun p d x hpm hd hcl hnl hS => ?_)
        rw [e]
        by_cases hpe : p = m
        · subst hpe
          rw [e] at hS
          have := congrArg List.length hS
          simp at this
        · exact hp p d x (by omega) hd hcl hnl hS
      · refine close (e ▸ h.snoc x) (e ▸ hx.trans (Ext0.snoc h x)) (fun p d y hpm hd hcl hnl hS => ?_)
        rw [e]
        by_cases hpe : p = m
        · subst hpe
          rw [e] at hS
          have := List.append_cancel_left hS
          cases this
          exact ⟨get_snoc, h.dom _ (Nat.le_refl _)⟩
        · obtain ⟨b1, b2⟩ := hp p d y (by omega) hd hcl hnl hS
          exact ⟨by rw [get_snoc_lt (List.getElem?_eq_some_iff.1 b1).1]; exact b1, b2⟩

end
end Go.LS

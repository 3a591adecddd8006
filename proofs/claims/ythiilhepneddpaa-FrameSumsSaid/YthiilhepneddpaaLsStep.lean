/- Every operation of LS is sound. -/
import Derived.Test.YthiilhepneddpaaLsCall2
import Derived.Test.YthiilhepneddpaaLsSoundA
set_option linter.unusedVariables false
set_option linter.unusedSimpArgs false
namespace Go.LS
section
variable {P : Program} {G : Gh} {st st' : List LObj} {w : World} {t : List LV} {a : Act} {o : Oper} {v : LV} {call : CallF}

theorem argsR_append {G : Gh} {xs ys : List LV} {us vs : Array Value} (h1 : ArgsR G xs us) (h2 : ArgsR G ys vs) : ArgsR G (xs ++ ys) (us ++ vs) := by
  refine ⟨by simp [h1.1, h2.1], fun i x hx => ?_⟩
  by_cases hi : i < xs.length
  · rw [List.getElem?_append_left hi] at hx
    have := h1.2 i x hx
    rw [Array.getD_eq_getD_getElem?, Array.getElem?_append_left (by rw [h1.1]; exact hi), ← Array.getD_eq_getD_getElem?]
    exact this
  · rw [List.getElem?_append_right (by omega)] at hx
    have := h2.2 _ x hx
    rw [Array.getD_eq_getD_getElem?, Array.getElem?_append_right (by rw [h1.1]; omega), ← Array.getD_eq_getD_getElem?, h1.1]
    exact this

theorem run_callFunc {f : FuncId} (hp : plainFn P f = true) (args : Array Value) (w : World) : (callFunc f args).run P w = .ok (.enter f args) w := by
  unfold plainFn at hp
  split at hp
  · rename_i fn hf
    simp only [Bool.and_eq_true, Bool.not_eq_true'] at hp
    have hb : fn.body ≠ none := by
      intro e
      have := hp.2
      rw [e] at this; cases this
    have hne : fn.name ≠ "runtime.NumGoroutine" := by simpa using hp.1
    simp [callFunc, hf, hne, hb]
  · cases hp

theorem opTo_call (hok : CallOK P call) {f : FuncId} {args : List LV} {us : Array Value} (ha : ArgsR G args us) (hc : callIso call f args st = some (v, st')) (h : WR G st w)
    (hrun : (execOp a.eval o).run P w = (callFunc f us).run P w) : OpTo P o a w (Good G st w v st') := by
  intro next Q hn
  unfold Oper.wp
  rw [hrun, run_callFunc (callIso_plain hok hc)]
  exact (callIso_sound hok hc h ha).mono fun e w' ⟨u, he, hg⟩ => by subst he; exact hn u w' hg

/-- A call of a function value: what may be called must be plain (asked when the value is made). -/
theorem op_call (hok : CallOK P call) {c : Call} (ho : o.op = .call c) {f : FuncId} (hcal : c.callee = .value (.func f)) {xs : List LX} (hxs : compXs c.args.toList = some xs)
    (hc : callIso call f (xs.map (LX.ev t)) st = some (v, st')) (h : WR G st w) (hx : XsR G t a o.op) : OpTo P o a w (Good G st w v st') := by
  have ha := argsR_of (G := G) (t := t) (a := a) (l := c.args.toList) (fun x hm y hy => hx x (by rw [ho]; simp only [Op.operands, Call.operands, Array.mem_append]; exact .inr (by simpa using hm)) y hy) hxs
  refine opTo_call hok ha hc h ?_
  have : (c.args.toList.map a.eval).toArray = c.args.map a.eval := by apply Array.ext'; simp
  rw [this]
  simp [execOp, ho, resolve, hcal, Act.eval, Deferred.ofValue, invoke]

theorem op_callv (hok : CallOK P call) {c : Call} (ho : o.op = .call c) {tt : Nat} (hcal : c.callee = .value (.tmp tt)) {xs : List LX} (hxs : compXs c.args.toList = some xs)
    {g : FuncId} {first captured : List LV} (hf : (LX.tmp tt).ev t = .fn (.func g) first captured) 
    (hc : callIso call g (first ++ xs.map (LX.ev t) ++ captured) st = some (v, st')) (h : WR G st w) (hx : XsR G t a o.op) : OpTo P o a w (Good G st w v st') := by
  have ha := argsR_of (G := G) (t := t) (a := a) (l := c.args.toList) (fun x hm y hy => hx x (by rw [ho]; simp only [Op.operands, Call.operands, Array.mem_append]; exact .inr (by simpa using hm)) y hy) hxs
  have h1 := hx (.tmp tt) (by rw [ho]; simp [Op.operands, Call.operands, hcal]) (.tmp tt) rfl
  rw [hf] at h1
  obtain ⟨vf, vc, hu, s1, s2, hvf, hvc⟩ := h1.fn_inv
  refine opTo_call hok (argsR_append (argsR_append (⟨s1, hvf⟩ : ArgsR G first vf) ha) (⟨s2, hvc⟩ : ArgsR G captured vc)) hc h ?_
  have : (c.args.toList.map a.eval).toArray = c.args.map a.eval := by apply Array.ext'; simp
  rw [this]
  simp [execOp, ho, resolve, hcal, hu, Deferred.ofValue, invoke]

theorem op_i2i {src dst : TypeId} {x : Operand} (ho : o.op = .convert src dst x) {k0 k : IntKind} (hs : P.underlying src = some (.int k0)) (hd : P.underlying dst = some (.int k))
    {y : LX} (hy : compX x = some y) {j : IntKind} {n : Int} (hv : y.ev t = .p (.int j n)) (h : WR G st w) (hx : XsR G t a o.op) : OpTo P o a w (Good G st w (.p (.int k (k.wrap n))) st) := by
  have h1 := hx x (by rw [ho]; simp [Op.operands]) y hy
  rw [hv] at h1
  refine opTo_value (u := .int k (k.wrap n)) (w' := w) ?_ (.same h (.p (.int _ _)))
  simp [execOp, ho, h1.int_inv, convert, run_underlying hs, run_underlying hd, Conv.intToInt]

theorem op_s2s {src dst : TypeId} {x : Operand} (ho : o.op = .convert src dst x) (hs : P.underlying src = some .string) (hd : P.underlying dst = some .string)
    {y : LX} (hy : compX x = some y) {s : List UInt8} (hv : y.ev t = .p (.str s)) (h : WR G st w) (hx : XsR G t a o.op) : OpTo P o a w (Good G st w (.p (.str s)) st) := by
  have h1 := hx x (by rw [ho]; simp [Op.operands]) y hy
  rw [hv] at h1
  refine opTo_value (u := .string ⟨s.toArray⟩) (w' := w) ?_ (.same h (.p (.str _)))
  simp [execOp, ho, h1.str_inv, convert, run_underlying hs, run_underlying hd]

theorem lcv_int {k : IntKind} {x : LV} {q : PV} (h : lcv (.int k) x = some q) : ∃ j n, x = .p (.int j n) ∧ q = .int k (k.wrap n) := by
  cases x with
  | p v => cases v <;> simp [lcv, LV.asSl] at h; exact ⟨_, _, rfl, h.symm⟩
  | _ => simp [lcv] at h
theorem lcv_str {x : LV} {q : PV} (h : lcv .str x = some q) : ∃ s, x = .p (.str s) ∧ q = .str s := by
  cases x with
  | p v => cases v <;> simp [lcv, LV.asSl] at h; exact ⟨_, rfl, h.symm⟩
  | _ => simp [lcv] at h
theorem lcv_s2b {x : LV} {q : PV} (h : lcv .s2b x = some q) : ∃ s, x = .p (.str s) ∧ s.length ≤ 140737488355328 ∧ q = .sl (bs s) := by
  cases x with
  | p v => cases v <;> simp [lcv, LV.asSl] at h; exact ⟨_, rfl, h.1, h.2.symm⟩
  | _ => simp [lcv] at h
theorem lcv_b2s {x : LV} {q : PV} (h : lcv .b2s x = some q) : ∃ es l, x.asSl = some es ∧ unbs es = some l ∧ q = .str l := by
  have e : lcv .b2s x = (match x.asSl with
    | some es => match unbs es with
      | some l => some (.str l)
      | none => none
    | none => none) := by
    cases x with
    | p v => cases v <;> rfl
    | _ => rfl
  rw [e] at h
  split at h
  · split at h
    · cases h; exact ⟨_, _, ‹_›, ‹_›, rfl⟩
    · cases h
  · cases h

theorem mlook_inv {k : PV} {x : LV} {r : Option LV} (h : mlook st k x = some r) : (x = .p .nilm ∧ r = none) ∨ ∃ q kv, x = .mp q ∧ st[q]? = some (.map kv) ∧ mfind k kv = some r := by
  unfold mlook at h
  split at h
  · cases h; exact .inl ⟨rfl, rfl⟩
  · split at h
    · exact .inr ⟨_, _, rfl, ‹_›, h⟩
    · cases h
  · cases h

theorem op_sound0 (hok : CallOK P call) {r : Bool} {lop : LOp} (hc : compOp0 P r o.op = some lop) (hs : opStep call t st lop = some (v, st')) (h : WR G st w) (hx : XsR G t a o.op) :
    OpTo P o a w (Good G st w v st') := by
  cases hop : o.op
  case move x =>
    simp only [hop, compOp0] at hc
    split at hc <;> cases hc
    simp only [opStep, Option.some.injEq, Prod.mk.injEq] at hs
    obtain ⟨rfl, rfl⟩ := hs
    exact op_mv (.inl hop) ‹_› h hx
  case assign x =>
    simp only [hop, compOp0] at hc
    split at hc <;> cases hc
    simp only [opStep, Option.some.injEq, Prod.mk.injEq] at hs
    obtain ⟨rfl, rfl⟩ := hs
    exact op_mv (.inr hop) ‹_› h hx
  case pick c x y =>
    simp only [hop, compOp0] at hc
    split at hc <;> cases hc
    simp only [opStep] at hs
    split at hs <;> cases hs
    exact op_pick hop ‹_› ‹_› ‹_› h hx ‹_›
  case alloc e =>
    simp only [hop, compOp0] at hc
    split at hc <;> cases hc
    simp only [opStep, Option.some.injEq, Prod.mk.injEq] at hs
    obtain ⟨rfl, rfl⟩ := hs
    exact op_alloc hop ‹_› h
  case box e x =>
    simp only [hop, compOp0] at hc
    split at hc <;> cases hc
    simp only [opStep] at hs
    split at hs <;> cases hs
    exact op_box hop ‹_› ‹_› h hx
  case build ty parts =>
    simp only [hop, compOp0] at hc
    split at hc
    · split at hc
      · split at hc <;> cases hc
        simp only [opStep] at hs
        split at hs
        · split at hs <;> cases hs
          exact op_build_struct hop ‹_› ‹_› ‹_› ‹_› ‹_› ‹_› h hx
        · cases hs
      · cases hc
    · split at hc
      · split at hc <;> cases hc
        simp only [opStep] at hs
        split at hs
        · split at hs <;> cases hs
          exact op_build_array hop ‹_› ‹_› ‹_› ‹_› ‹_› ‹_› h hx
        · cases hs
      · cases hc
    · cases hc
  case buildSlice ty len parts =>
    simp only [hop, compOp0] at hc
    split at hc
    · split at hc
      · split at hc
        · rename_i hcond
          cases hc
          simp only [opStep] at hs
          split at hs
          · cases hs
          · split at hs
            · cases hs
            · obtain ⟨r1, r2⟩ := op_mkrow hop ‹_› ‹_› ‹_› ‹_› hcond.1 hcond.2.1 hcond.2.2 ‹_› ‹_› h hx
              split at hs
              · cases hs; exact r1
              · split at hs
                · cases hs; exact r2 _ ‹_›
                · cases hs; exact r1
        · cases hc
      · cases hc
    · cases hc
  case load ty x =>
    simp only [hop, compOp0] at hc
    split at hc
    · split at hc
      · cases hc
        simp only [opStep] at hs
        split at hs
        · split at hs <;> cases hs
          exact op_load hop ‹_› ‹_› ‹_› ‹_› ‹_› h hx
        · cases hs
      · cases hc
    · cases hc
  case store ty x y =>
    simp only [hop, compOp0] at hc
    split at hc
    · cases hc
      simp only [opStep] at hs
      split at hs
      · split at hs
        · split at hs <;> cases hs
          exact op_store hop ‹_› ‹_› ‹_› ‹_› ‹_› ‹_› h hx
        · cases hs
      · cases hs
    · cases hc
  case nilCheck x =>
    simp only [hop, compOp0] at hc
    split at hc <;> cases hc
    simp only [opStep] at hs
    split at hs
    · cases hs; exact op_nilChk hop ‹_› ‹_› (.inl ⟨_, _, _, rfl⟩) h hx
    · cases hs; exact op_nilChk hop ‹_› ‹_› (.inr (.inl ⟨_, _, rfl⟩)) h hx
    · cases hs; exact op_nilChk hop ‹_› ‹_› (.inr (.inr ⟨_, _, _, rfl⟩)) h hx
    · cases hs
  case binOp op ty x y ty' =>
    simp only [hop, compOp0] at hc
    split at hc
    · cases hc
      simp only [opStep] at hs
      split at hs <;> cases hs
      exact op_bin hop ‹_› ‹_› ‹_› h hx
    · cases hc
      simp only [opStep] at hs
      split at hs <;> cases hs
      exact op_bin hop ‹_› ‹_› ‹_› h hx
    · split at hc
      · cases hc
        simp only [opStep] at hs
        split at hs <;> cases hs
        exact op_beq (neg := false) hop ‹_› ‹_› ‹_› ‹_› h hx
      · cases hc
        simp only [opStep] at hs
        split at hs <;> cases hs
        exact op_beq (neg := true) hop ‹_› ‹_› ‹_› ‹_› h hx
      · cases hc
    · split at hc
      · cases hc
        simp only [opStep] at hs
        split at hs <;> cases hs
        exact op_peq (neg := false) hop ‹_› ‹_› ‹_› ‹_› h hx
      · cases hc
        simp only [opStep] at hs
        split at hs <;> cases hs
        exact op_peq (neg := true) hop ‹_› ‹_› ‹_› ‹_› h hx
      · cases hc
    · split at hc
      · rename_i hfl
        split at hc
        · cases hc
          simp only [opStep] at hs
          split at hs
          · split at hs <;> cases hs
            exact op_seq (neg := false) hop ‹_› hfl ‹_› ‹_› ‹_› ‹_› ‹_› h hx
          · cases hs
        · cases hc
          simp only [opStep] at hs
          split at hs
          · split at hs <;> cases hs
            exact op_seq (neg := true) hop ‹_› hfl ‹_› ‹_› ‹_› ‹_› ‹_› h hx
          · cases hs
        · cases hc
      · cases hc
    · exact op_nil hop hc hs h hx
  case unOp op ty x =>
    simp only [hop, compOp0] at hc
    split at hc <;> cases hc
    simp only [opStep] at hs
    split at hs <;> cases hs
    exact op_un hop ‹_› ‹_› h hx
  case convert src dst x =>
    simp only [hop, compOp0] at hc
    split at hc
    · cases hc
      simp only [opStep] at hs
      split at hs
      · rename_i q hq
        cases hs
        obtain ⟨j, n, e, rfl⟩ := lcv_int hq
        exact op_i2i hop ‹_› ‹_› ‹_› e h hx
      · cases hs
    · cases hc
      simp only [opStep] at hs
      split at hs
      · rename_i q hq
        cases hs
        obtain ⟨j, e, rfl⟩ := lcv_str hq
        exact op_s2s hop ‹_› ‹_› ‹_› e h hx
      · cases hs
    · split at hc
      · split at hc
        · cases hc
          simp only [opStep] at hs
          split at hs
          · rename_i q hq
            cases hs
            obtain ⟨j, e, hl, rfl⟩ := lcv_s2b hq
            exact op_s2b hop ‹_› ‹_› ‹_› ‹_› e hl h hx
          · cases hs
        · cases hc
      · cases hc
    · split at hc
      · cases hc
        simp only [opStep] at hs
        split at hs
        · rename_i q hq
          cases hs
          obtain ⟨es, l, e1, e2, rfl⟩ := lcv_b2s hq
          exact op_b2s hop ‹_› ‹_› ‹_› ‹_› e1 e2 h hx
        · cases hs
      · cases hc
    · split at hc
      · rename_i hsd
        split at hc
        · cases hc
          simp only [opStep] at hs
          split at hs
          · split at hs
            · split at hs
              · split at hs <;> cases hs
                exact op_retire hop (by simpa using hsd) ‹_› ‹_› ‹_› ‹_› ‹_› ‹_› ‹_› ‹_› h hx
              · cases hs
            · cases hs
          · cases hs
        · cases hc
      · cases hc
    · cases hc
  case makeFunc fn first captured =>
    simp only [hop] at hc
    cases fn <;> simp only [compOp0] at hc <;> try cases hc
    split at hc
    · split at hc <;> cases hc
      simp only [opStep, Option.some.injEq, Prod.mk.injEq] at hs
      obtain ⟨rfl, rfl⟩ := hs
      exact op_fn hop ‹_› ‹_› h hx
    · cases hc
  case makeInterface ty x =>
    simp only [hop, compOp0] at hc
    split at hc
    · cases hc
    · rename_i d y hni hd hy
      cases hc
      simp only [opStep] at hs
      split at hs <;> cases hs
      exact op_iface hop hd (fun ms e => hni ms (by first | exact e | (rw [← e]; exact hd) | (rw [hd, e]))) hy h hx
    · cases hc
  case makeMap ty res =>
    simp only [hop] at hc
    cases res <;> simp only [compOp0] at hc <;> cases hc
    simp only [opStep, Option.some.injEq, Prod.mk.injEq] at hs
    obtain ⟨rfl, rfl⟩ := hs
    exact op_mkmap hop h
  case makeSlice ty l c =>
    simp only [hop, compOp0] at hc
    split at hc
    · split at hc
      · cases hc
        simp only [opStep] at hs
        split at hs
        · split at hs
          · rename_i hcond
            split at hs
            · rename_i h0
              cases hs
              exact op_mkslice hop ‹_› ‹_› ‹_› ‹_› ‹_› ‹_› ‹_› hcond h hx (.inl ⟨h0.1, h0.2, rfl, rfl⟩)
            · split at hs
              · rename_i h0
                cases hs
                exact op_mkslice hop ‹_› ‹_› ‹_› ‹_› ‹_› ‹_› ‹_› hcond h hx (.inr ⟨h0, rfl, rfl⟩)
              · cases hs
          · cases hs
        · cases hs
      · cases hc
    · cases hc
  case slice ty x lo hi mx =>
    simp only [hop, compOp0] at hc
    split at hc
    · cases hc
      simp only [opStep] at hs
      split at hs
      · split at hs
        · rename_i q hq
          cases hs
          simp only [lslice] at hq
          split at hq
          · cases hq
          · rename_i hmx
            split at hq
            · split at hq <;> cases hq
              exact op_slice_str hop ‹_› ‹_› ‹_› ‹_› ‹_› ‹_› (by simpa using hmx) ‹_› ‹_› h hx
            · cases hq
        · cases hs
      · cases hs
    · split at hc
      · cases hc
        simp only [opStep] at hs
        split at hs
        · rename_i q hq
          cases hs
          unfold rslice at hq
          split at hq
          · rename_i o' off len e1
            split at hq
            · cases hq
            · rename_i hmx
              split at hq
              · split at hq
                · split at hq
                  · split at hq
                    · split at hq
                      · split at hq <;> cases hq
                        exact op_slice_rs (el := []) hop ‹_› ‹_› ‹_› ‹_› ‹_› ‹_› e1 (by cases hz : ‹Option LX› <;> simp_all) ‹_› ‹_› ‹_› ‹_› ‹_› ‹_› h hx
                      · cases hq
                    · cases hq
                  · cases hq
                · cases hq
              · cases hq
          · rename_i tg n e1
            split at hq
            · cases hq
            · rename_i hnn
              split at hq
              · cases hq
                exact op_slice_gr hop ‹_› ‹_› ‹_› ‹_› ‹_› ‹_› e1 (by cases hz : ‹Option LX› <;> simp_all) (by cases hz : ‹Option LX› <;> simp_all) ‹_› h hx
              · cases hq
          · rename_i e1
            split at hq
            · exact op_slice_v hop ‹_› ‹_› ‹_› ‹_› ‹_› ‹_› (by rw [e1]; exact hq) (by rw [e1]; rfl) (by simp) h hx
            · rename_i hnn
              split at hq
              · cases hq
                exact op_slice_tight0 hop ‹_› ‹_› ‹_› ‹_› ‹_› ‹_› e1 (by cases hz : ‹Option LX› <;> simp_all) (by cases hz : ‹Option LX› <;> simp_all) ‹_› h hx
              · cases hq
          · split at hq
            · rename_i es hes
              split at hq
              · rename_i hall
                exact op_slice_v hop ‹_› ‹_› ‹_› ‹_› ‹_› ‹_› hq hes (fun e he => by simpa using List.all_eq_true.1 hall e he) h hx
              · cases hq
            · cases hq
        · cases hs
      · cases hc
    · cases hc
  case fieldAddr s x f =>
    simp only [hop, compOp0] at hc
    split at hc
    · split at hc
      · split at hc
        · split at hc
          · cases hc
          · cases hc
            simp only [opStep] at hs
            split at hs
            · cases hs; exact op_fieldAddr hop ‹_› ‹_› ‹_› ‹_› ‹_› h hx (.inl ⟨_, _, _, ‹_›, rfl⟩)
            · cases hs; exact op_fieldAddr hop ‹_› ‹_› ‹_› ‹_› ‹_› h hx (.inr ⟨_, _, ‹_›, rfl⟩)
            · cases hs
        · cases hc
      · cases hc
    · cases hc
  case field ty x f =>
    simp only [hop, compOp0] at hc
    split at hc
    · split at hc
      · split at hc
        · split at hc
          · cases hc
            simp only [opStep] at hs
            split at hs
            · split at hs
              · split at hs <;> cases hs
                exact op_field hop ‹_› ‹_› ‹_› ‹_› ‹_› ‹_› ‹_› ‹_› h hx
              · cases hs
            · cases hs
          · cases hc
        · cases hc
      · cases hc
    · cases hc
  case indexAddr ty x i =>
    simp only [hop, compOp0] at hc
    split at hc
    · split at hc
      · split at hc
        · cases hc
          simp only [opStep] at hs
          split at hs
          · cases hs
          · rename_i n hn
            split at hs
            · cases hs
            · rename_i h0
              split at hs
              · rename_i q off len e1
                split at hs
                · rename_i hlt
                  split at hs
                  · rename_i es e2
                    split at hs
                    · rename_i el e3
                      split at hs
                      · rename_i e4
                        cases hs
                        exact op_indexAddr hop ‹_› ‹_› ‹_› ‹_› hn (by omega) h hx (.inr ⟨q, off, len, es, el, e1, hlt, e2, e3, e4, rfl⟩)
                      · cases hs
                    · cases hs
                  · cases hs
                · cases hs
              · split at hs
                · rename_i es e1
                  split at hs
                  · rename_i el e2
                    split at hs
                    · rename_i e3
                      cases hs
                      exact op_indexAddr hop ‹_› ‹_› ‹_› ‹_› hn (by omega) h hx (.inl ⟨es, el, e1, e2, e3, rfl⟩)
                    · cases hs
                  · cases hs
                · cases hs
        · cases hc
      · cases hc
    · split at hc
      · split at hc
        · cases hc
          simp only [opStep] at hs
          split at hs
          · cases hs
          · rename_i n hn
            split at hs
            · rename_i h0
              split at hs
              · cases hs; exact op_arrAddr hop ‹_› ‹_› ‹_› ‹_› hn h0 h hx (.inl ⟨_, _, _, ‹_›, rfl⟩)
              · cases hs; exact op_arrAddr hop ‹_› ‹_› ‹_› ‹_› hn h0 h hx (.inr ⟨_, _, ‹_›, rfl⟩)
              · cases hs
            · cases hs
        · cases hc
      · cases hc
    · cases hc
  case index ty x i =>
    simp only [hop, compOp0] at hc
    split at hc
    · cases hc
      simp only [opStep] at hs
      split at hs
      · split at hs
        · split at hs <;> cases hs
          exact op_index hop ‹_› ‹_› ‹_› ‹_› ‹_› ‹_› ‹_› h hx
        · cases hs
      · cases hs
    · split at hc
      · split at hc
        · cases hc
          simp only [opStep] at hs
          split at hs
          · split at hs
            · rename_i h0
              split at hs <;> cases hs
              exact op_arrIndex hop ‹_› ‹_› ‹_› ‹_› ‹_› ‹_› ⟨h0.1, h0.2.1⟩ ‹_› h0.2.2 ‹_› h hx
            · cases hs
          · cases hs
        · cases hc
      · cases hc
    · cases hc
  case lookup ty x i ok =>
    simp only [hop, compOp0] at hc
    split at hc
    · split at hc
      · split at hc
        · split at hc
          · split at hc
            · cases hc
              simp only [opStep] at hs
              split at hs
              · cases hs
              · rename_i k hk
                split at hs
                · rename_i hf
                  split at hs
                  · rename_i v' hm
                    cases hs
                    exact op_lookup (r := some v') hop ‹_› ‹_› ‹_› ‹_› ‹_› ‹_› ‹_› hk hf (mlook_inv hm) h hx
                  · rename_i hm
                    cases hs
                    exact op_lookup (r := none) hop ‹_› ‹_› ‹_› ‹_› ‹_› ‹_› ‹_› hk hf (mlook_inv hm) h hx
                  · cases hs
                · cases hs
            · cases hc
          · cases hc
        · cases hc
      · cases hc
    · cases hc
  case mapUpdate ty m k x =>
    simp only [hop, compOp0] at hc
    split at hc
    · split at hc <;> cases hc
      simp only [opStep] at hs
      split at hs
      · split at hs
        · split at hs
          · split at hs <;> cases hs
            exact op_mapUpdate (.inl hop) ‹_› ‹_› ‹_› ‹_› ‹_› ‹_› ‹_› ‹_› ‹_› ‹_› h hx
          · cases hs
        · cases hs
      · cases hs
    · cases hc
  case insert ty m k x =>
    simp only [hop, compOp0] at hc
    split at hc
    · split at hc <;> cases hc
      simp only [opStep] at hs
      split at hs
      · split at hs
        · split at hs
          · split at hs <;> cases hs
            exact op_mapUpdate (.inr hop) ‹_› ‹_› ‹_› ‹_› ‹_› ‹_› ‹_› ‹_› ‹_› ‹_› h hx
          · cases hs
        · cases hs
      · cases hs
    · cases hc
  case range ty x =>
    simp only [hop, compOp0] at hc
    split at hc <;> cases hc
    simp only [opStep] at hs
    split at hs <;> cases hs
    exact op_range hop ‹_› ‹_› ‹_› h hx
  case next x b =>
    simp only [hop] at hc
    cases b <;> simp only [compOp0] at hc <;> try cases hc
    split at hc <;> cases hc
    simp only [opStep] at hs
    split at hs
    · split at hs
      · have := op_next (P := P) hop ‹_› ‹_› ‹_› h hx
        split at hs
        · rename_i hp
          cases hs
          rw [if_pos hp] at this
          exact this
        · rename_i hp
          cases hs
          rw [if_neg hp] at this
          exact this
      · cases hs
    · cases hs
  case extract x i =>
    simp only [hop, compOp0] at hc
    split at hc <;> cases hc
    simp only [opStep] at hs
    split at hs
    · split at hs <;> cases hs
      exact op_extract hop ‹_› ‹_› ‹_› h hx
    · cases hs
  case call c =>
    simp only [hop, compOp0] at hc
    obtain ⟨callee, args, argTypes⟩ := c
    unfold compCall at hc
    simp only at hc
    split at hc
    · split at hc
      · split at hc <;> cases hc
        exact op_call hok hop rfl ‹_› (by simpa only [opStep] using hs) h hx
      · cases hc
    · split at hc <;> cases hc
      simp only [opStep] at hs
      split at hs
      · exact op_callv hok hop rfl ‹_› ‹_› hs h hx
      · cases hs
    · cases hc
    · cases hc
    · split at hc
      · -- append
        rename_i ty u s x e1 e2
        obtain rfl : argTypes = #[ty, u] := by apply Array.ext'; simpa using e1
        obtain rfl : args = #[s, x] := by apply Array.ext'; simpa using e2
        split at hc
        · split at hc
          · split at hc
            · split at hc
              · cases hc
                simp only [opStep] at hs
                exact op_append hop ‹_› ‹_› (by intro k e; cases e) ‹_› ‹_› ‹_› (.inl ⟨_, rfl⟩) ‹_› ‹_› hs (by intro e; cases e) h hx
              · cases hc
            · cases hc
          · split at hc
            · split at hc
              · rename_i hcond
                cases hc
                simp only [opStep] at hs
                exact op_append hop ‹_› ‹_› (by intro k e; cases e) ‹_› ‹_› hcond.1 (.inr ⟨rfl, hcond.2.1⟩) ‹_› ‹_› hs (fun _ => hcond.2.1) h hx
              · cases hc
            · cases hc
          · split at hc
            · split at hc
              · rename_i hcond
                cases hc
                simp only [opStep] at hs
                split at hs
                · exact op_grow hop ‹_› ‹_› ‹_› ‹_› hcond.1 hcond.2 ‹_› ‹_› ‹_› ‹_› hs h hx
                · cases hs
              · cases hc
            · cases hc
          · cases hc
        · cases hc
      · -- len
        rename_i ty x e1 e2
        obtain rfl : argTypes = #[ty] := by apply Array.ext'; simpa using e1
        obtain rfl : args = #[x] := by apply Array.ext'; simpa using e2
        split at hc
        · cases hc
          simp only [opStep, Option.some.injEq, Prod.mk.injEq] at hs
          obtain ⟨rfl, rfl⟩ := hs
          exact op_constLen hop ‹_› h
        · cases hc
          simp only [opStep] at hs
          split at hs <;> cases hs
          exact op_len hop ‹_› h hx (.inl ⟨‹_›, _, ‹_›, rfl⟩)
        · cases hc
          simp only [opStep] at hs
          split at hs
          · cases hs
            exact op_len hop ‹_› h hx (.inr (.inl ⟨⟨_, ‹_›⟩, .inr ⟨_, _, ‹_›⟩⟩))
          · split at hs <;> cases hs
            exact op_len hop ‹_› h hx (.inr (.inl ⟨⟨_, ‹_›⟩, .inl ⟨_, ‹_›, rfl⟩⟩))
        · cases hc
          simp only [opStep] at hs
          split at hs
          · cases hs
            exact op_len (n := 0) hop ‹_› h hx (.inr (.inr ⟨⟨_, _, ‹_›⟩, .inl ⟨‹_›, rfl⟩⟩))
          · split at hs <;> cases hs
            exact op_len hop ‹_› h hx (.inr (.inr ⟨⟨_, _, ‹_›⟩, .inr ⟨_, _, ‹_›, ‹_›, rfl⟩⟩))
          · cases hs
        · cases hc
      · -- cap
        rename_i ty x e1 e2
        obtain rfl : argTypes = #[ty] := by apply Array.ext'; simpa using e1
        obtain rfl : args = #[x] := by apply Array.ext'; simpa using e2
        split at hc
        · cases hc
          simp only [opStep] at hs
          split at hs <;> cases hs
          exact op_cap hop ‹_› ‹_› ‹_› h hx
        · cases hc
      · rename_i x y e2
        obtain rfl : args = #[x, y] := by apply Array.ext'; simpa using e2
        split at hc <;> cases hc
        simp only [opStep] at hs
        split at hs <;> cases hs
        exact op_mx hop ‹_› ‹_› ‹_› ‹_› h hx
      · rename_i x y e2
        obtain rfl : args = #[x, y] := by apply Array.ext'; simpa using e2
        split at hc <;> cases hc
        simp only [opStep] at hs
        split at hs <;> cases hs
        exact op_mn hop ‹_› ‹_› ‹_› ‹_› h hx
      · -- delete
        rename_i ty u m k e1 e2
        obtain rfl : argTypes = #[ty, u] := by apply Array.ext'; simpa using e1
        obtain rfl : args = #[m, k] := by apply Array.ext'; simpa using e2
        split at hc
        · split at hc <;> cases hc
          simp only [opStep] at hs
          split at hs
          · split at hs
            · split at hs
              · split at hs <;> cases hs
                exact op_delete hop ‹_› ‹_› ‹_› ‹_› ‹_› ‹_› ‹_› ‹_› ‹_› h hx
              · cases hs
            · cases hs
          · cases hs
        · cases hc
      · cases hc
  all_goals (simp [hop, compOp0] at hc)

theorem op_sound (hok : CallOK P call) {r : Bool} {lop : LOp} (hc : compOp P r o.op = some lop) (hs : opStep call t st lop = some (v, st')) (h : WR G st w) (hx : XsR G t a o.op) :
    OpTo P o a w (Good G st w v st') := by
  unfold compOp at hc
  split at hc
  · rename_i l hl
    cases hc
    exact op_sound0 hok hl hs h hx
  · cases hc; simp [opStep] at hs

end
end Go.LS

/- A small semantics of loaded Go code that the kernel can run, part 4. -/
import Derived.Test.YtmbjojnldbeicaaLsG3
import Derived.LoopN
set_option linter.unusedVariables false
set_option linter.unusedSimpArgs false
namespace Go.LS
theorem Ud {α β : Type} {f : α → β} {o : Option α} {v : β} (h : o.map f = some v) : o.isSome = true := by cases o <;> simp_all
theorem Rt {α β : Type} {f : α → β} {o : Option α} {q : Prop} (h : ¬ ((o.map f).isNone = true ∨ q)) : o.isSome = true := by cases o <;> simp_all
section
variable {P : Program} {G : Gh} {st st' : List LObj} {w : World} {t : List LV} {a : Act} {o : Oper} {v : LV} {call : CallF}
theorem Ke {G : Gh} {xs ys : List LV} {us vs : Array Value} (h1 : ArgsR G xs us) (h2 : ArgsR G ys vs) : ArgsR G (xs ++ ys) (us ++ vs) := by
 refine ⟨by simp [h1.1, h2.1], fun i x hx => ?_⟩
 by_cases hi : i < xs.length
 ·rw [List.getElem?_append_left hi] at hx
  have := h1.2 i x hx
  rw [Array.getD_eq_getD_getElem?, Array.getElem?_append_left (by rw [h1.1]; exact hi), ← Array.getD_eq_getD_getElem?]
  exact this
 ·rw [List.getElem?_append_right (by omega)] at hx
  have := h2.2 _ x hx
  rw [Array.getD_eq_getD_getElem?, Array.getElem?_append_right (by rw [h1.1]; omega), ← Array.getD_eq_getD_getElem?, h1.1]
  exact this
theorem P4 {f : FuncId} (hp : Fa P f = true) (args : Array Value) (w : World) : (callFunc f args).run P w = .ok (.enter f args) w := by
 unfold Fa at hp
 split at hp
 ·rename_i fn hf
  simp only [Bool.and_eq_true, Bool.not_eq_true'] at hp
  have hb : fn.body ≠ none := by
   intro e
   have := hp.2
   rw [e] at this; cases this
  have hne : fn.name ≠ "runtime.NumGoroutine" := by simpa using hp.1
  simp [callFunc, hf, hne, hb]
 ·cases hp
theorem O7 (hok : Ei P call) {f : FuncId} {args : List LV} {us : Array Value} (ha : ArgsR G args us) (hc : Cx call f args st = some (v, st')) (h : WR G st w)
  (hrun : (execOp a.eval o).run P w = (callFunc f us).run P w) : B1 P o a w (Good G st w v st') := by
 intro next Q hn
 unfold Oper.wp
 rw [hrun, P4 (Ou hok hc)]
 exact (Ov hok hc h ha).mono fun e w' ⟨u, he, hg⟩ => by subst he; exact hn u w' hg
theorem Wh (hok : Ei P call) {c : Call} (ho : o.op = .call c) {f : FuncId} (hcal : c.callee = .value (.func f)) {xs : List LX} (hxs : D5 c.args.toList = some xs)
  (hc : Cx call f (xs.map (LX.ev t)) st = some (v, st')) (h : WR G st w) (hx : XsR G t a o.op) : B1 P o a w (Good G st w v st') := by
 have ha := Hv (G := G) (t := t) (a := a) (l := c.args.toList) (fun x hm y hy => hx x (by rw [ho]; simp only [Op.operands, Call.operands, Array.mem_append]; exact .inr (by simpa using hm)) y hy) hxs
 refine O7 hok ha hc h ?_
 have : (c.args.toList.map a.eval).toArray = c.args.map a.eval := by apply Array.ext'; simp
 rw [this]
 simp [execOp, ho, resolve, hcal, Act.eval, Deferred.ofValue, invoke]
theorem Zt (hok : Ei P call) {c : Call} (ho : o.op = .call c) {tt : Nat} (hcal : c.callee = .value (.tmp tt)) {xs : List LX} (hxs : D5 c.args.toList = some xs)
  {g : FuncId} {first captured : List LV} (hf : (LX.tmp tt).ev t = .fn (.func g) first captured) 
  (hc : Cx call g (first ++ xs.map (LX.ev t) ++ captured) st = some (v, st')) (h : WR G st w) (hx : XsR G t a o.op) : B1 P o a w (Good G st w v st') := by
 have ha := Hv (G := G) (t := t) (a := a) (l := c.args.toList) (fun x hm y hy => hx x (by rw [ho]; simp only [Op.operands, Call.operands, Array.mem_append]; exact .inr (by simpa using hm)) y hy) hxs
 have h1 := hx (.tmp tt) (by rw [ho]; simp [Op.operands, Call.operands, hcal]) (.tmp tt) rfl
 rw [hf] at h1
 obtain ⟨vf, vc, hu, s1, s2, hvf, hvc⟩ := h1.fn_inv
 refine O7 hok (Ke (Ke (⟨s1, hvf⟩ : ArgsR G first vf) ha) (⟨s2, hvc⟩ : ArgsR G captured vc)) hc h ?_
 have : (c.args.toList.map a.eval).toArray = c.args.map a.eval := by apply Array.ext'; simp
 rw [this]
 simp [execOp, ho, resolve, hcal, hu, Deferred.ofValue, invoke]
theorem op_i2i {src dst : TypeId} {x : Operand} (ho : o.op = .convert src dst x) {k0 k : IntKind} (hs : P.underlying src = some (.int k0)) (hd : P.underlying dst = some (.int k))
  {y : LX} (hy : A3 x = some y) {j : IntKind} {n : Int} (hv : y.ev t = .p (.int j n)) (h : WR G st w) (hx : XsR G t a o.op) : B1 P o a w (Good G st w (.p (.int k (k.wrap n))) st) := by
 have h1 := hx x (by rw [ho]; simp [Op.operands]) y hy
 rw [hv] at h1
 refine As (u := .int k (k.wrap n)) (w' := w) ?_ (.same h (.p (.int _ _)))
 simp [execOp, ho, h1.int_inv, convert, run_underlying hs, run_underlying hd, Conv.intToInt]
theorem op_s2s {src dst : TypeId} {x : Operand} (ho : o.op = .convert src dst x) (hs : P.underlying src = some .string) (hd : P.underlying dst = some .string)
  {y : LX} (hy : A3 x = some y) {s : List UInt8} (hv : y.ev t = .p (.str s)) (h : WR G st w) (hx : XsR G t a o.op) : B1 P o a w (Good G st w (.p (.str s)) st) := by
 have h1 := hx x (by rw [ho]; simp [Op.operands]) y hy
 rw [hv] at h1
 refine As (u := .string ⟨s.toArray⟩) (w' := w) ?_ (.same h (.p (.str _)))
 simp [execOp, ho, h1.str_inv, convert, run_underlying hs, run_underlying hd]
theorem lcv_int {k : IntKind} {x : LV} {q : PV} (h : lcv (.int k) x = some q) : ∃ j n, x = .p (.int j n) ∧ q = .int k (k.wrap n) := by
 cases x with
 | p v => cases v <;> simp [lcv, LV.asSl] at h; exact ⟨_, _, rfl, h.symm⟩
 | _ => simp [lcv] at h
theorem lcv_str {x : LV} {q : PV} (h : lcv .str x = some q) : ∃ s, x = .p (.str s) ∧ q = .str s := by
 cases x with
 | p v => cases v <;> simp [lcv, LV.asSl] at h; exact ⟨_, rfl, h.symm⟩
 | _ => simp [lcv] at h
theorem lcv_s2b {x : LV} {q : PV} (h : lcv .s2b x = some q) : ∃ s, x = .p (.str s) ∧ s.length ≤ 140737488355328 ∧ q = .sl (bs s) := by
 cases x with
 | p v => cases v <;> simp [lcv, LV.asSl] at h; exact ⟨_, rfl, h.1, h.2.symm⟩
 | _ => simp [lcv] at h
theorem lcv_b2s {x : LV} {q : PV} (h : lcv .b2s x = some q) : ∃ es l, x.asSl = some es ∧ Or es = some l ∧ q = .str l := by
 have e : lcv .b2s x = (match x.asSl with
  | some es => match Or es with
   | some l => some (.str l)
   | none => none
  | none => none) := by
  cases x with
  | p v => cases v <;> rfl
  | _ => rfl
 rw [e] at h
 split at h
 ·split at h
  ·cases h; exact ⟨_, _, ‹_›, ‹_›, rfl⟩
  ·cases h
 ·cases h
theorem O8 {k : PV} {x : LV} {r : Option LV} (h : Wd st k x = some r) : (x = .p .nilm ∧ r = none) ∨ ∃ q kv, x = .mp q ∧ st[q]? = some (.map kv) ∧ Hp k kv = some r := by
 unfold Wd at h
 split at h
 ·cases h; exact .inl ⟨rfl, rfl⟩
 ·split at h
  ·exact .inr ⟨_, _, rfl, ‹_›, h⟩
  ·cases h
 ·cases h
theorem Xx (hok : Ei P call) {r : Bool} {lop : LOp} (hc : Bo P r o.op = some lop) (hs : Ao call t st lop = some (v, st')) (h : WR G st w) (hx : XsR G t a o.op) :
  B1 P o a w (Good G st w v st') := by
 cases hop : o.op
 case move x =>
  simp only [hop, Bo] at hc
  split at hc <;> cases hc
  simp only [Ao, Option.some.injEq, Prod.mk.injEq] at hs
  obtain ⟨rfl, rfl⟩ := hs
  exact op_mv (.inl hop) ‹_› h hx
 case assign x =>
  simp only [hop, Bo] at hc
  split at hc <;> cases hc
  simp only [Ao, Option.some.injEq, Prod.mk.injEq] at hs
  obtain ⟨rfl, rfl⟩ := hs
  exact op_mv (.inr hop) ‹_› h hx
 case pick c x y =>
  simp only [hop, Bo] at hc
  split at hc <;> cases hc
  simp only [Ao] at hs
  split at hs <;> cases hs
  exact op_pick hop ‹_› ‹_› ‹_› h hx ‹_›
 case alloc e =>
  simp only [hop, Bo] at hc
  split at hc <;> cases hc
  simp only [Ao, Option.some.injEq, Prod.mk.injEq] at hs
  obtain ⟨rfl, rfl⟩ := hs
  exact Zc hop ‹_› h
 case box e x =>
  simp only [hop, Bo] at hc
  split at hc <;> cases hc
  simp only [Ao] at hs
  split at hs <;> cases hs
  exact op_box hop ‹_› ‹_› h hx
 case build ty parts =>
  simp only [hop, Bo] at hc
  split at hc
  ·split at hc
   ·split at hc <;> cases hc
    simp only [Ao] at hs
    split at hs
    ·split at hs <;> cases hs
     exact Ms hop ‹_› ‹_› ‹_› ‹_› ‹_› ‹_› h hx
    ·cases hs
   ·cases hc
  ·split at hc
   ·split at hc <;> cases hc
    simp only [Ao] at hs
    split at hs
    ·split at hs <;> cases hs
     exact Nn hop ‹_› ‹_› ‹_› ‹_› ‹_› ‹_› h hx
    ·cases hs
   ·cases hc
  ·cases hc
 case buildSlice ty len parts =>
  simp only [hop, Bo] at hc
  split at hc
  ·split at hc
   ·split at hc
    ·rename_i hcond
     cases hc
     simp only [Ao] at hs
     split at hs
     ·cases hs
     ·split at hs
      ·cases hs
      ·obtain ⟨r1, r2⟩ := Zn hop ‹_› ‹_› ‹_› ‹_› hcond.1 hcond.2.1 hcond.2.2 ‹_› ‹_› h hx
       split at hs
       ·cases hs; exact r1
       ·split at hs
        ·cases hs; exact r2 _ ‹_›
        ·cases hs; exact r1
    ·cases hc
   ·cases hc
  ·cases hc
 case load ty x =>
  simp only [hop, Bo] at hc
  split at hc
  ·split at hc
   ·cases hc
    simp only [Ao] at hs
    split at hs
    ·split at hs <;> cases hs
     exact op_load hop ‹_› ‹_› ‹_› ‹_› ‹_› h hx
    ·cases hs
   ·cases hc
  ·cases hc
 case store ty x y =>
  simp only [hop, Bo] at hc
  split at hc
  ·cases hc
   simp only [Ao] at hs
   split at hs
   ·split at hs
    ·split at hs <;> cases hs
     exact Zi hop ‹_› ‹_› ‹_› ‹_› ‹_› ‹_› h hx
    ·cases hs
   ·cases hs
  ·cases hc
 case nilCheck x =>
  simp only [hop, Bo] at hc
  split at hc <;> cases hc
  simp only [Ao] at hs
  split at hs
  ·cases hs; exact K2 hop ‹_› ‹_› (.inl ⟨_, _, _, rfl⟩) h hx
  ·cases hs; exact K2 hop ‹_› ‹_› (.inr (.inl ⟨_, _, rfl⟩)) h hx
  ·cases hs; exact K2 hop ‹_› ‹_› (.inr (.inr ⟨_, _, _, rfl⟩)) h hx
  ·cases hs
 case binOp op ty x y ty' =>
  simp only [hop, Bo] at hc
  split at hc
  ·cases hc
   simp only [Ao] at hs
   split at hs <;> cases hs
   exact Zd hop ‹_› ‹_› ‹_› h hx
  ·cases hc
   simp only [Ao] at hs
   split at hs <;> cases hs
   exact Zd hop ‹_› ‹_› ‹_› h hx
  ·split at hc
   ·cases hc
    simp only [Ao] at hs
    split at hs <;> cases hs
    exact Ze (neg := false) hop ‹_› ‹_› ‹_› ‹_› h hx
   ·cases hc
    simp only [Ao] at hs
    split at hs <;> cases hs
    exact Ze (neg := true) hop ‹_› ‹_› ‹_› ‹_› h hx
   ·cases hc
  ·split at hc
   ·cases hc
    simp only [Ao] at hs
    split at hs <;> cases hs
    exact Zf (neg := false) hop ‹_› ‹_› ‹_› ‹_› h hx
   ·cases hc
    simp only [Ao] at hs
    split at hs <;> cases hs
    exact Zf (neg := true) hop ‹_› ‹_› ‹_› ‹_› h hx
   ·cases hc
  ·split at hc
   ·rename_i hfl
    split at hc
    ·cases hc
     simp only [Ao] at hs
     split at hs
     ·split at hs <;> cases hs
      exact Zr (neg := false) hop ‹_› hfl ‹_› ‹_› ‹_› ‹_› ‹_› h hx
     ·cases hs
    ·cases hc
     simp only [Ao] at hs
     split at hs
     ·split at hs <;> cases hs
      exact Zr (neg := true) hop ‹_› hfl ‹_› ‹_› ‹_› ‹_› ‹_› h hx
     ·cases hs
    ·cases hc
   ·cases hc
  ·exact op_nil hop hc hs h hx
 case unOp op ty x =>
  simp only [hop, Bo] at hc
  split at hc <;> cases hc
  simp only [Ao] at hs
  split at hs <;> cases hs
  exact op_un hop ‹_› ‹_› h hx
 case convert src dst x =>
  simp only [hop, Bo] at hc
  split at hc
  ·cases hc
   simp only [Ao] at hs
   split at hs
   ·rename_i q hq
    cases hs
    obtain ⟨j, n, e, rfl⟩ := lcv_int hq
    exact op_i2i hop ‹_› ‹_› ‹_› e h hx
   ·cases hs
  ·cases hc
   simp only [Ao] at hs
   split at hs
   ·rename_i q hq
    cases hs
    obtain ⟨j, e, rfl⟩ := lcv_str hq
    exact op_s2s hop ‹_› ‹_› ‹_› e h hx
   ·cases hs
  ·split at hc
   ·split at hc
    ·cases hc
     simp only [Ao] at hs
     split at hs
     ·rename_i q hq
      cases hs
      obtain ⟨j, e, hl, rfl⟩ := lcv_s2b hq
      exact op_s2b hop ‹_› ‹_› ‹_› ‹_› e hl h hx
     ·cases hs
    ·cases hc
   ·cases hc
  ·split at hc
   ·cases hc
    simp only [Ao] at hs
    split at hs
    ·rename_i q hq
     cases hs
     obtain ⟨es, l, e1, e2, rfl⟩ := lcv_b2s hq
     exact op_b2s hop ‹_› ‹_› ‹_› ‹_› e1 e2 h hx
    ·cases hs
   ·cases hc
  ·split at hc
   ·rename_i hsd
    split at hc
    ·cases hc
     simp only [Ao] at hs
     split at hs
     ·split at hs
      ·split at hs
       ·split at hs <;> cases hs
        exact Xu hop (by simpa using hsd) ‹_› ‹_› ‹_› ‹_› ‹_› ‹_› ‹_› ‹_› h hx
       ·cases hs
      ·cases hs
     ·cases hs
    ·cases hc
   ·cases hc
  ·cases hc
 case makeFunc fn first captured =>
  simp only [hop] at hc
  cases fn <;> simp only [Bo] at hc <;> try cases hc
  split at hc
  ·split at hc <;> cases hc
   simp only [Ao, Option.some.injEq, Prod.mk.injEq] at hs
   obtain ⟨rfl, rfl⟩ := hs
   exact op_fn hop ‹_› ‹_› h hx
  ·split at hc <;> cases hc
   simp only [Ao, Option.some.injEq, Prod.mk.injEq] at hs
   obtain ⟨rfl, rfl⟩ := hs
   exact op_fnm hop ‹_› ‹_› h hx
 case makeInterface ty x =>
  simp only [hop, Bo] at hc
  split at hc
  ·cases hc
  ·rename_i d y hni hd hy
   cases hc
   simp only [Ao] at hs
   split at hs <;> cases hs
   exact Zj hop hd (fun ms e => hni ms (by first | exact e | (rw [← e]; exact hd) | (rw [hd, e]))) hy h hx
  ·cases hc
 case makeMap ty res =>
  simp only [hop] at hc
  cases res <;> simp only [Bo] at hc <;> cases hc
  simp only [Ao, Option.some.injEq, Prod.mk.injEq] at hs
  obtain ⟨rfl, rfl⟩ := hs
  exact Zk hop h
 case makeSlice ty l c =>
  simp only [hop, Bo] at hc
  split at hc
  ·split at hc
   ·cases hc
    simp only [Ao] at hs
    split at hs
    ·split at hs
     ·rename_i hcond
      split at hs
      ·rename_i h0
       cases hs
       exact No hop ‹_› ‹_› ‹_› ‹_› ‹_› ‹_› ‹_› hcond h hx (.inl ⟨h0.1, h0.2, rfl, rfl⟩)
      ·split at hs
       ·rename_i h0
        cases hs
        exact No hop ‹_› ‹_› ‹_› ‹_› ‹_› ‹_› ‹_› hcond h hx (.inr ⟨h0, rfl, rfl⟩)
       ·cases hs
     ·cases hs
    ·cases hs
   ·cases hc
  ·cases hc
 case slice ty x lo hi mx =>
  simp only [hop, Bo] at hc
  split at hc
  ·cases hc
   simp only [Ao] at hs
   split at hs
   ·split at hs
    ·rename_i q hq
     cases hs
     simp only [Hm] at hq
     split at hq
     ·cases hq
     ·rename_i hmx
      split at hq
      ·split at hq <;> cases hq
       exact Py hop ‹_› ‹_› ‹_› ‹_› ‹_› ‹_› (by simpa using hmx) ‹_› ‹_› h hx
      ·cases hq
    ·cases hs
   ·cases hs
  ·split at hc
   ·cases hc
    simp only [Ao] at hs
    split at hs
    ·rename_i q hq
     cases hs
     unfold Kw at hq
     split at hq
     ·rename_i o' off len e1
      split at hq
      ·split at hq
       ·rename_i hmx
        split at hq
        ·split at hq
         ·split at hq
          ·split at hq
           ·split at hq <;> cases hq
            exact Rp hop ‹_› ‹_› ‹_› ‹_› ‹_› ‹_› e1 (by cases hz : ‹Option LX› <;> simp_all) ‹_› ‹_› ‹_› ‹_› ‹_› ‹_› h hx
           ·cases hq
          ·split at hq <;> cases hq
           exact Pz hop ‹_› ‹_› ‹_› ‹_› ‹_› ‹_› e1 (by cases hz : ‹Option LX› <;> simp_all) ‹_› ‹_› ‹_› ‹_› h hx
         ·cases hq
        ·cases hq
       ·rename_i hmx
        split at hq
        ·cases hq
        ·rename_i hho
         split at hq
         ·split at hq
          ·split at hq
           ·rename_i _ m hm0 _ hh hh0 _ l hl0
            have hg := P0 hop ‹_› ‹_› ‹_› ‹_› ‹_› ‹_› e1 (Ud hmx) (Rt hho) ‹_› hm0 hh0 hl0 h hx
            split at hq <;> cases hq
            ·rename_i hml; rw [if_pos hml] at hg; exact hg
            ·rename_i hml; rw [if_neg hml] at hg; exact hg
           ·cases hq
          ·cases hq
         ·cases hq
      ·cases hq
     ·rename_i tg n e1
      split at hq
      ·cases hq
      ·rename_i hnn
       split at hq
       ·cases hq
        exact Rr hop ‹_› ‹_› ‹_› ‹_› ‹_› ‹_› e1 (by cases hz : ‹Option LX› <;> simp_all) (by cases hz : ‹Option LX› <;> simp_all) ‹_› h hx
       ·cases hq
     ·rename_i e1
      split at hq
      ·exact Nh hop ‹_› ‹_› ‹_› ‹_› ‹_› ‹_› (by rw [e1]; exact hq) (by rw [e1]; rfl) (by simp) h hx
      ·rename_i hnn
       split at hq
       ·cases hq
        exact Mr hop ‹_› ‹_› ‹_› ‹_› ‹_› ‹_› e1 (by cases hz : ‹Option LX› <;> simp_all) (by cases hz : ‹Option LX› <;> simp_all) ‹_› h hx
       ·cases hq
     ·split at hq
      ·rename_i es hes
       split at hq
       ·rename_i hall
        exact Nh hop ‹_› ‹_› ‹_› ‹_› ‹_› ‹_› hq hes (fun e he => by simpa using List.all_eq_true.1 hall e he) h hx
       ·cases hq
      ·cases hq
    ·cases hs
   ·cases hc
  ·cases hc
 case fieldAddr s x f =>
  simp only [hop, Bo] at hc
  split at hc
  ·split at hc
   ·split at hc
    ·split at hc
     ·cases hc
     ·cases hc
      simp only [Ao] at hs
      split at hs
      ·cases hs; exact J6 hop ‹_› ‹_› ‹_› ‹_› ‹_› h hx (.inl ⟨_, _, _, ‹_›, rfl⟩)
      ·cases hs; exact J6 hop ‹_› ‹_› ‹_› ‹_› ‹_› h hx (.inr ⟨_, _, ‹_›, rfl⟩)
      ·cases hs
    ·cases hc
   ·cases hc
  ·cases hc
 case field ty x f =>
  simp only [hop, Bo] at hc
  split at hc
  ·split at hc
   ·split at hc
    ·split at hc
     ·cases hc
      simp only [Ao] at hs
      split at hs
      ·split at hs
       ·split at hs <;> cases hs
        exact Zg hop ‹_› ‹_› ‹_› ‹_› ‹_› ‹_› ‹_› ‹_› h hx
       ·cases hs
      ·cases hs
     ·cases hc
    ·cases hc
   ·cases hc
  ·cases hc
 case indexAddr ty x i =>
  simp only [hop, Bo] at hc
  split at hc
  ·split at hc
   ·split at hc
    ·cases hc
     simp only [Ao] at hs
     split at hs
     ·cases hs
     ·rename_i n hn
      split at hs
      ·cases hs
      ·rename_i h0
       split at hs
       ·rename_i q off len e1
        split at hs
        ·rename_i hlt
         split at hs
         ·rename_i es e2
          split at hs
          ·rename_i el e3
           split at hs
           ·rename_i e4
            cases hs
            exact J8 hop ‹_› ‹_› ‹_› ‹_› hn (by omega) h hx (.inr ⟨q, off, len, es, el, e1, hlt, e2, e3, e4, rfl⟩)
           ·cases hs
          ·cases hs
         ·cases hs
        ·cases hs
       ·split at hs
        ·rename_i es e1
         split at hs
         ·rename_i el e2
          split at hs
          ·rename_i e3
           cases hs
           exact J8 hop ‹_› ‹_› ‹_› ‹_› hn (by omega) h hx (.inl ⟨es, el, e1, e2, e3, rfl⟩)
          ·cases hs
         ·cases hs
        ·cases hs
    ·cases hc
   ·cases hc
  ·split at hc
   ·split at hc
    ·cases hc
     simp only [Ao] at hs
     split at hs
     ·cases hs
     ·rename_i n hn
      split at hs
      ·rename_i h0
       split at hs
       ·cases hs; exact Nc hop ‹_› ‹_› ‹_› ‹_› hn h0 h hx (.inl ⟨_, _, _, ‹_›, rfl⟩)
       ·cases hs; exact Nc hop ‹_› ‹_› ‹_› ‹_› hn h0 h hx (.inr ⟨_, _, ‹_›, rfl⟩)
       ·cases hs
      ·cases hs
    ·cases hc
   ·cases hc
  ·cases hc
 case index ty x i =>
  simp only [hop, Bo] at hc
  split at hc
  ·cases hc
   simp only [Ao] at hs
   split at hs
   ·split at hs
    ·split at hs <;> cases hs
     exact Zh hop ‹_› ‹_› ‹_› ‹_› ‹_› ‹_› ‹_› h hx
    ·cases hs
   ·cases hs
  ·split at hc
   ·split at hc
    ·cases hc
     simp only [Ao] at hs
     split at hs
     ·split at hs
      ·rename_i h0
       split at hs <;> cases hs
       exact Rl hop ‹_› ‹_› ‹_› ‹_› ‹_› ‹_› ⟨h0.1, h0.2.1⟩ ‹_› h0.2.2 ‹_› h hx
      ·cases hs
     ·cases hs
    ·cases hc
   ·cases hc
  ·cases hc
 case lookup ty x i ok =>
  simp only [hop, Bo] at hc
  split at hc
  ·split at hc
   ·split at hc
    ·split at hc
     ·split at hc
      ·cases hc
       simp only [Ao] at hs
       split at hs
       ·cases hs
       ·rename_i k hk
        split at hs
        ·rename_i hf
         split at hs
         ·rename_i v' hm
          cases hs
          exact O6 (r := some v') hop ‹_› ‹_› ‹_› ‹_› ‹_› ‹_› ‹_› hk hf (O8 hm) h hx
         ·rename_i hm
          cases hs
          exact O6 (r := none) hop ‹_› ‹_› ‹_› ‹_› ‹_› ‹_› ‹_› hk hf (O8 hm) h hx
         ·cases hs
        ·cases hs
      ·cases hc
     ·cases hc
    ·cases hc
   ·cases hc
  ·cases hc
 case mapUpdate ty m k x =>
  simp only [hop, Bo] at hc
  split at hc
  ·split at hc <;> cases hc
   simp only [Ao] at hs
   split at hs
   ·split at hs
    ·split at hs
     ·split at hs <;> cases hs
      exact Ka (.inl hop) ‹_› ‹_› ‹_› ‹_› ‹_› ‹_› ‹_› ‹_› ‹_› ‹_› h hx
     ·cases hs
    ·cases hs
   ·cases hs
  ·cases hc
 case insert ty m k x =>
  simp only [hop, Bo] at hc
  split at hc
  ·split at hc <;> cases hc
   simp only [Ao] at hs
   split at hs
   ·split at hs
    ·split at hs
     ·split at hs <;> cases hs
      exact Ka (.inr hop) ‹_› ‹_› ‹_› ‹_› ‹_› ‹_› ‹_› ‹_› ‹_› ‹_› h hx
     ·cases hs
    ·cases hs
   ·cases hs
  ·cases hc
 case range ty x =>
  simp only [hop, Bo] at hc
  split at hc <;> cases hc
  simp only [Ao] at hs
  split at hs <;> cases hs
  exact Zl hop ‹_› ‹_› ‹_› h hx
 case next x b =>
  simp only [hop] at hc
  cases b <;> simp only [Bo] at hc <;> try cases hc
  split at hc <;> cases hc
  simp only [Ao] at hs
  split at hs
  ·split at hs
   ·have := op_next (P := P) hop ‹_› ‹_› ‹_› h hx
    split at hs
    ·rename_i hp
     cases hs
     rw [if_pos hp] at this
     exact this
    ·rename_i hp
     cases hs
     rw [if_neg hp] at this
     exact this
   ·cases hs
  ·cases hs
 case extract x i =>
  simp only [hop, Bo] at hc
  split at hc <;> cases hc
  simp only [Ao] at hs
  split at hs
  ·split at hs <;> cases hs
   exact T4 hop ‹_› ‹_› ‹_› h hx
  ·cases hs
 case call c =>
  simp only [hop, Bo] at hc
  obtain ⟨callee, args, argTypes⟩ := c
  have hinv := We hc
  clear hc
  rcases hinv with hc | ⟨az, bz, sx, xx, hc, rfl⟩ | ⟨fz, xz, hc, rfl⟩
  rotate_left 2
  ·unfold Gg at hc
   simp only at hc
   split at hc
   ·split at hc
    ·split at hc <;> cases hc
     exact Wh (Xw hok) hop rfl ‹_› (by simpa only [Ao] using hs) h hx
    ·cases hc
   ·split at hc <;> cases hc
   ·cases hc
   ·cases hc
   ·exfalso
    repeat' (first | (cases hc; done) | split at hc)
  rotate_left 1
  ·unfold Gg at hc
   simp only at hc
   split at hc
   ·split at hc
    ·split at hc <;> cases hc
    ·cases hc
   ·split at hc <;> cases hc
   ·cases hc
   ·cases hc
   ·split at hc
    ·rename_i ty u s x e1 e2
     obtain rfl : argTypes = #[ty, u] := by apply Array.ext'; simpa using e1
     obtain rfl : args = #[s, x] := by apply Array.ext'; simpa using e2
     split at hc
     ·split at hc
      ·split at hc
       ·split at hc
        ·cases hc
         simp only [Ao] at hs
         exact I9 hop ‹_› ‹_› (by intro k e; cases e) ‹_› ‹_› ‹_› ‹_› ‹_› hs h hx
        ·cases hc
       ·cases hc
      ·split at hc
       ·split at hc <;> cases hc
       ·cases hc
      ·split at hc
       ·split at hc <;> cases hc
       ·cases hc
      ·cases hc
     ·cases hc
    all_goals (repeat' (first | (cases hc; done) | split at hc))
  unfold Gg at hc
  simp only at hc
  split at hc
  ·split at hc
   ·split at hc <;> cases hc
    exact Wh hok hop rfl ‹_› (by simpa only [Ao] using hs) h hx
   ·cases hc
  ·split at hc <;> cases hc
   simp only [Ao] at hs
   split at hs
   ·exact Zt hok hop rfl ‹_› ‹_› hs h hx
   ·cases hs
  ·cases hc
  ·cases hc
  ·split at hc
   ·-- append
    rename_i ty u s x e1 e2
    obtain rfl : argTypes = #[ty, u] := by apply Array.ext'; simpa using e1
    obtain rfl : args = #[s, x] := by apply Array.ext'; simpa using e2
    split at hc
    ·split at hc
     ·split at hc
      ·split at hc
       ·cases hc
        simp only [Ao] at hs
        unfold orA at hs
        split at hs
        ·rename_i r hl
         cases hs
         exact O3 hop ‹_› ‹_› (by intro k e; cases e) ‹_› ‹_› ‹_› (.inl ⟨_, rfl⟩) ‹_› ‹_› hl (by intro e; cases e) h hx
        ·exact I9 hop ‹_› ‹_› (by intro k e; cases e) ‹_› ‹_› ‹_› ‹_› ‹_› hs h hx
       ·cases hc
      ·cases hc
     ·split at hc
      ·split at hc
       ·rename_i hcond
        cases hc
        simp only [Ao] at hs
        unfold orA at hs
        split at hs
        ·rename_i r hl
         cases hs
         exact O3 hop ‹_› ‹_› (by intro k e; cases e) ‹_› ‹_› hcond.1 (.inr ⟨rfl, hcond.2.1⟩) ‹_› ‹_› hl (fun _ => hcond.2.1) h hx
        ·exact I9 hop ‹_› ‹_› (by intro k e; cases e) ‹_› ‹_› hcond.1 ‹_› ‹_› hs h hx
       ·cases hc
      ·cases hc
     ·split at hc
      ·split at hc
       ·rename_i hcond
        cases hc
        simp only [Ao] at hs
        split at hs
        ·exact op_grow hop ‹_› ‹_› ‹_› ‹_› hcond.1 hcond.2 ‹_› ‹_› ‹_› ‹_› hs h hx
        ·cases hs
       ·cases hc
      ·cases hc
     ·cases hc
    ·cases hc
   ·-- len
    rename_i ty x e1 e2
    obtain rfl : argTypes = #[ty] := by apply Array.ext'; simpa using e1
    obtain rfl : args = #[x] := by apply Array.ext'; simpa using e2
    split at hc
    ·cases hc
     simp only [Ao, Option.some.injEq, Prod.mk.injEq] at hs
     obtain ⟨rfl, rfl⟩ := hs
     exact Rm hop ‹_› h
    ·cases hc
     simp only [Ao] at hs
     split at hs <;> cases hs
     exact Nd hop ‹_› h hx (.inl ⟨‹_›, _, ‹_›, rfl⟩)
    ·cases hc
     simp only [Ao] at hs
     split at hs
     ·cases hs
      exact Nd hop ‹_› h hx (.inr (.inl ⟨⟨_, ‹_›⟩, .inr ⟨_, _, ‹_›⟩⟩))
     ·split at hs <;> cases hs
      exact Nd hop ‹_› h hx (.inr (.inl ⟨⟨_, ‹_›⟩, .inl ⟨_, ‹_›, rfl⟩⟩))
    ·cases hc
     simp only [Ao] at hs
     split at hs
     ·cases hs
      exact Nd (n := 0) hop ‹_› h hx (.inr (.inr ⟨⟨_, _, ‹_›⟩, .inl ⟨‹_›, rfl⟩⟩))
     ·split at hs <;> cases hs
      exact Nd hop ‹_› h hx (.inr (.inr ⟨⟨_, _, ‹_›⟩, .inr ⟨_, _, ‹_›, ‹_›, rfl⟩⟩))
     ·cases hs
    ·cases hc
   ·-- clear
    rename_i ty x e1 e2
    obtain rfl : argTypes = #[ty] := by apply Array.ext'; simpa using e1
    obtain rfl : args = #[x] := by apply Array.ext'; simpa using e2
    split at hc
    ·split at hc
     ·cases hc
      simp only [Ao] at hs
      split at hs
      ·split at hs
       ·cases hs
        rename_i hz0
        subst hz0
        exact K8 hop ‹_› ‹_› (.inl ⟨_, _, ‹_›⟩) h hx
       ·rename_i hz0
        split at hs
        ·split at hs
         ·rename_i hcnd
          cases hs
          exact Zs hop ‹_› ‹_› ‹_› ‹_› hz0 ‹_› hcnd.1 hcnd.2.1 hcnd.2.2 h hx
         ·cases hs
        ·cases hs
      ·cases hs
       exact K8 hop ‹_› ‹_› (.inr (.inl ‹_›)) h hx
      ·cases hs
       exact K8 hop ‹_› ‹_› (.inr (.inr ‹_›)) h hx
      ·cases hs
     ·cases hc
    ·cases hc
   ·-- cap
    rename_i ty x e1 e2
    obtain rfl : argTypes = #[ty] := by apply Array.ext'; simpa using e1
    obtain rfl : args = #[x] := by apply Array.ext'; simpa using e2
    split at hc
    ·cases hc
     simp only [Ao] at hs
     split at hs <;> cases hs
     exact op_cap hop ‹_› ‹_› ‹_› h hx
    ·cases hc
   ·rename_i x y e2
    obtain rfl : args = #[x, y] := by apply Array.ext'; simpa using e2
    split at hc <;> cases hc
    simp only [Ao] at hs
    split at hs <;> cases hs
    exact op_mx hop ‹_› ‹_› ‹_› ‹_› h hx
   ·rename_i x y e2
    obtain rfl : args = #[x, y] := by apply Array.ext'; simpa using e2
    split at hc <;> cases hc
    simp only [Ao] at hs
    split at hs <;> cases hs
    exact op_mn hop ‹_› ‹_› ‹_› ‹_› h hx
   ·-- delete
    rename_i ty u m k e1 e2
    obtain rfl : argTypes = #[ty, u] := by apply Array.ext'; simpa using e1
    obtain rfl : args = #[m, k] := by apply Array.ext'; simpa using e2
    split at hc
    ·split at hc <;> cases hc
     simp only [Ao] at hs
     split at hs
     ·split at hs
      ·split at hs
       ·split at hs <;> cases hs
        exact Xt hop ‹_› ‹_› ‹_› ‹_› ‹_› ‹_› ‹_› ‹_› ‹_› h hx
       ·cases hs
      ·cases hs
     ·cases hs
    ·cases hc
   ·cases hc
 all_goals (simp [hop, Bo] at hc)
theorem Nt (hok : Ei P call) {r : Bool} {lop : LOp} (hc : K1 P r o.op = some lop) (hs : Ao call t st lop = some (v, st')) (h : WR G st w) (hx : XsR G t a o.op) :
  B1 P o a w (Good G st w v st') := by
 unfold K1 at hc
 split at hc
 ·rename_i l hl
  cases hc
  exact Xx hok hl hs h hx
 ·cases hc; simp [Ao] at hs
end
end Go.LS
set_option linter.unusedVariables false
set_option linter.unusedSimpArgs false
namespace Go.LS
theorem G6 {G : Gh} {st : List LObj} {x : LObj} (h1 : G.loc st.length = none) (h2 : ∀ f, G.hist st.length f = none) {o b : Nat} (ho : Owns G (st ++ [x]) o b) : Owns G st o b ∧ o < st.length := by
 have := Owns.lt ho
 simp at this
 rcases Nat.lt_or_ge o st.length with h' | h'
 ·exact ⟨(Owns.snoc h' rfl (fun _ => rfl)).1 ho, h'⟩
 ·obtain rfl : o = st.length := by omega
  unfold Owns at ho
  rw [D6] at ho
  cases x <;> simp [h1, h2] at ho
theorem WR.snoc {G : Gh} {st : List LObj} {w : World} (h : WR G st w) (x : LObj) : WR G (st ++ [x]) w := by
 obtain ⟨h1, h2⟩ := h.dom st.length (Nat.le_refl _)
 refine ⟨h.fr, ?_, ?_, ?_, ?_, ?_, ?_, ?_, ?_⟩
 ·intro o ho
  simp at ho
  exact h.dom o (by omega)
 ·intro o es ho l hl
  rcases Bd ho with ⟨_, ho⟩ | ⟨rfl, _⟩
  ·exact h.row o es ho l hl
  ·rw [h1] at hl; cases hl
 ·intro o es ho l hl
  rcases Bd ho with ⟨_, ho⟩ | ⟨rfl, _⟩
  ·exact h.map o es ho l hl
  ·rw [h1] at hl; cases hl
 ·intro o s p ho l hl
  rcases Bd ho with ⟨_, ho⟩ | ⟨rfl, _⟩
  ·exact h.iter o s p ho l hl
  ·rw [h1] at hl; cases hl
 ·intro o n hw ho
  rcases Bd ho with ⟨_, ho⟩ | ⟨rfl, _⟩
  ·exact h.spare o n hw ho
  ·exact ⟨fun f _ => h2 f, fun s hs => by rw [h2] at hs; cases hs⟩
 ·intro o o' b ho ho'
  exact h.uniq o o' b (G6 h1 h2 ho).1 (G6 h1 h2 ho').1
 ·intro o b ho hn
  obtain ⟨a, c⟩ := G6 h1 h2 ho
  exact h.ownF o b a (fun ⟨n, hw, e⟩ => hn ⟨n, hw, by rw [C5 c]; exact e⟩)
 ·intro o y ho hy f
  rcases Bd ho with ⟨_, ho⟩ | ⟨rfl, _⟩
  ·exact h.kind o y ho hy f
  ·exact h2 f
theorem Ext0.snoc {G : Gh} {st : List LObj} {w : World} (h : WR G st w) (x : LObj) : Ext0 G st w G (st ++ [x]) w := by
 obtain ⟨h1, h2⟩ := h.dom st.length (Nat.le_refl _)
 exact ⟨.refl G, rfl, rfl, rfl, Nat.le_refl _, fun _ _ _ => rfl, fun o b ho _ => ⟨o, (G6 h1 h2 ho).1⟩, fun _ _ _ hv _ _ => hv⟩
def NewAt (G : Gh) (w : World) (x : LObj) (l : Loc) (ob : Obj) : Prop :=
 (∃ es size n arr e, x = .row es ∧ l = .row w.heap.size size n ∧ ob = .cells arr e ∧ arr.size = n * size ∧ es.length ≤ n ∧ rowOk G arr es size) ∨
 (∃ kv es clock, x = .map kv ∧ l = .map w.heap.size ∧ ob = .map es clock ∧ mapOk G es kv ∧ Stamps es clock)
theorem WR.place {G : Gh} {st : List LObj} {w : World} (h : WR G st w) {o : Nat} {x : LObj} (hs : st[o]? = some x) (hl : G.loc o = none) (hh : ∀ f, G.hist o f = none) (l : Loc) (ob : Obj) (hx : NewAt G w x l ob) :
  WR (G.addLoc o l) st (w.alloc ob) ∧ Ext0 G st w (G.addLoc o l) st (w.alloc ob) := by
 have holt : o < st.length := (List.getElem?_eq_some_iff.1 hs).1
 have hle : G.le (G.addLoc o l) := Gh.le_addLoc hl
 have hloc : ∀ q, q ≠ o → (G.addLoc o l).loc q = G.loc q := fun q hq => by simp [Gh.addLoc, hq]
 have hnew : (G.addLoc o l).loc o = some l := by simp [Gh.addLoc]
 have hns : ∀ n hw, x ≠ .spare n hw := by
  intro n hw e
  rcases hx with ⟨_, _, _, _, _, rfl, _⟩ | ⟨_, _, _, rfl, _⟩ <;> cases e
 have hoo : ∀ q b, Owns (G.addLoc o l) st q b → (q ≠ o ∧ Owns G st q b) ∨ (q = o ∧ b = w.heap.size) := by
  intro q b hq
  by_cases e : q = o
  ·refine .inr ⟨e, ?_⟩
   subst e
   unfold Owns at hq
   rw [hs, hnew] at hq
   rcases hx with ⟨_, _, _, _, _, rfl, rfl, _⟩ | ⟨_, _, _, rfl, rfl, _⟩ <;> simp at hq
   ·exact hq.symm
   ·exact hq.symm
  ·refine .inl ⟨e, ?_⟩
   unfold Owns at hq ⊢
   rw [hloc q e] at hq
   exact hq
 refine ⟨⟨?_, ?_, ?_, ?_, ?_, ?_, ?_, ?_, fun q y hq hy f => h.kind q y hq hy f⟩, ⟨hle, rfl, rfl, rfl, by simp, ?_, ?_, ?_⟩⟩
 ·intro b q v hv
  rw [J0 (h.fr_lt hv)]
  exact h.fr b q v hv
 ·intro q hq
  exact ⟨by rw [hloc q (by omega)]; exact (h.dom q hq).1, (h.dom q hq).2⟩
 ·intro q es hq l' hl'
  by_cases e : q = o
  ·subst e
   rw [hs] at hq; cases hq
   rw [hnew] at hl'; cases hl'
   rcases hx with ⟨es', size, n, arr, e, hx, rfl, rfl, h1, h2, h3⟩ | ⟨_, _, _, hx, _⟩
   ·cases hx
    exact ⟨_, size, n, rfl, arr, e, heap_alloc_new w _, h1, h2, h3.mono hle⟩
   ·cases hx
  ·rw [hloc q e] at hl'
   obtain ⟨blk, size, n, e, arr, ty, hb, r⟩ := h.row q es hq l' hl'
   exact ⟨blk, size, n, e, arr, ty, by rw [Cb (Bq hb)]; exact hb, r.1, r.2.1, r.2.2.mono hle⟩
 ·intro q kv hq l' hl'
  by_cases e : q = o
  ·subst e
   rw [hs] at hq; cases hq
   rw [hnew] at hl'; cases hl'
   rcases hx with ⟨_, _, _, _, _, hx, _⟩ | ⟨kv', es, c, hx, rfl, rfl, h3⟩
   ·cases hx
   ·cases hx
    exact ⟨_, rfl, es, c, heap_alloc_new w _, ⟨h3.1.mono hle, h3.2⟩⟩
  ·rw [hloc q e] at hl'
   obtain ⟨blk, e, es, c, hb, r⟩ := h.map q kv hq l' hl'
   exact ⟨blk, e, es, c, by rw [Cb (Bq hb)]; exact hb, ⟨r.1.mono hle, r.2⟩⟩
 ·intro q s pos hq l' hl'
  by_cases e : q = o
  ·subst e
   rw [hs] at hq; cases hq
   rcases hx with ⟨_, _, _, _, _, hx, _⟩ | ⟨_, _, _, hx, _⟩ <;> cases hx
  ·rw [hloc q e] at hl'
   obtain ⟨blk, e, hb⟩ := h.iter q s pos hq l' hl'
   exact ⟨blk, e, by rw [Cb (Bq hb)]; exact hb⟩
 ·intro q n hw hq
  obtain ⟨h1, h2⟩ := h.spare q n hw hq
  refine ⟨h1, fun s hs => ?_⟩
  obtain ⟨a, ⟨arr, e, hb, hz⟩, hf⟩ := h2 s hs
  exact ⟨a, ⟨arr, e, by rw [Cb (Bq hb)]; exact hb, hz⟩, hf⟩
 ·intro q q' b hq hq'
  rcases hoo q b hq with ⟨h1, h2⟩ | ⟨rfl, rfl⟩ <;> rcases hoo q' _ hq' with ⟨h3, h4⟩ | ⟨rfl, h5⟩
  ·exact h.uniq q q' b h2 h4
  ·have := h.owns_lt h2; omega
  ·have := h.owns_lt h4; omega
  ·rfl
 ·intro q b hq hn off
  rcases hoo q b hq with ⟨h1, h2⟩ | ⟨rfl, rfl⟩
  ·exact h.ownF q b h2 hn off
  ·cases hf : (G.addLoc q l).F w.heap.size off with
   | none => rfl
   | some v => have := h.fr_lt (show G.F w.heap.size off = some v from hf); omega
 ·intro b hb _; exact Cb hb
 ·intro q b hq hb
  rcases hoo q b hq with ⟨h1, h2⟩ | ⟨rfl, rfl⟩
  ·exact ⟨q, h2⟩
  ·omega
 ·intro b off v hv _ _; exact hv
def Jb (G : Gh) (w : World) (v : LV) (x : LObj) (o : Nat) (u : Value) (w' : World) : Prop :=
 ∃ l ob, NewAt G w x l ob ∧ w' = w.alloc ob ∧ VL (G.addLoc o l) v u
section
variable {P : Program} {G : Gh} {w : World} {t : List LV} {a : Act} {o : Oper}
theorem Zu {e : TypeId} (ho : o.op = .alloc e) {z : List LV} (hz : Db P e = some z) (q : Nat) : B1 P o a w (Jb G w (.ptr q 0 0) (.row [z]) q) := by
 unfold Db at hz
 split at hz
 ·rename_i i hi
  split at hz
  ·rename_i zv hzv
   have hc := Dc G hz
   simp at hc
   refine As (u := .pointer (some ⟨w.heap.size, 0, none⟩)) (w' := w.alloc (.cells zv.cells e)) ?_
    ⟨.row w.heap.size z.length 1, _, .inl ⟨[z], z.length, 1, zv.cells, e, rfl, rfl, rfl, by simpa using hc.1, by simp, hc.toRow⟩, rfl, Il ..⟩
   simp [execOp, ho, Instr.alloc, Cy hi hzv, newVar, newRow]
  ·cases hz
 ·cases hz
theorem mk_box {e : TypeId} {x : Operand} (ho : o.op = .box e x) {y : LX} (hy : A3 x = some y) {cs : List LV} (hcs : (y.ev t).cells? = some cs) (hx : XsR G t a o.op) (q : Nat) :
  B1 P o a w (Jb G w (.ptr q 0 0) (.row [cs]) q) := by
 have h1 := hx x (by rw [ho]; simp [Op.operands]) y hy
 have hc := Ee hcs h1
 refine As (u := .pointer (some ⟨w.heap.size, 0, none⟩)) (w' := w.alloc (.cells (a.eval x).cells e)) ?_
  ⟨.row w.heap.size cs.length 1, _, .inl ⟨[cs], cs.length, 1, _, e, rfl, rfl, rfl, by simpa using hc.1, by simp, hc.toRow⟩, rfl, Il ..⟩
 simp [execOp, ho, Instr.box, newVar, newRow]
theorem Zv {ty : TypeId} (ho : o.op = .makeMap ty none) (q : Nat) : B1 P o a w (Jb G w (.mp q) (.map []) q) := by
 refine As (u := .map (some w.heap.size)) (w' := w.alloc (.map #[] 0)) ?_
  ⟨.map w.heap.size, _, .inr ⟨[], #[], 0, rfl, rfl, rfl, ⟨rfl, by simp⟩, .nil _⟩, rfl, .mp (by simp [Gh.addLoc])⟩
 simp [execOp, ho, Instr.makeMap]
theorem Ru (G : Gh) (o blk size len n : Nat) (h : len ≤ maxLen) (hn : len = n) : VL (G.addLoc o (.row blk size n)) (.rs o 0 len) (.slice (some ⟨blk, 0, none⟩) len len) := by
 have hh := VL.rs (G := G.addLoc o (.row blk size n)) (o := o) (off := 0) (len := len) (cap := len) (blk := blk) (size := size) (n := n) (by simp [Gh.addLoc]) h (Nat.le_refl _) (by omega)
 simpa using hh
theorem Zw {ty e : TypeId} {len : Nat} {parts : Array (Nat × Operand)} (ho : o.op = .buildSlice ty len parts) (hty : P.underlying ty = some (.slice e)) {i : TypeInfo} (hi : P.info? e = some i)
  {z : List LV} (hz : Db P e = some z) {ps : List (Nat × LX)} (hps : Ed parts.toList = some ps) (h0 : 0 < i.size) (hbig : len * i.size ≤ 16777216) (hzl : z.length = i.size)
  {qs : List (Nat × List LV)} (hq : Ho t ps = some qs) {es : List (List LV)} (hes : Hn i.size (List.replicate len z) qs = some es) (hx : XsR G t a o.op) (q : Nat) :
  B1 P o a w (Jb G w (.rs q 0 len) (.row es) q) := by
 obtain ⟨arr', hrun, h3, h2, hel⟩ := O5 (w := w) ho hty hi hz hps h0 hbig hzl hq hes hx
 refine As hrun ⟨.row w.heap.size i.size es.length, _, .inl ⟨es, i.size, es.length, arr', e, rfl, rfl, rfl, h3, Nat.le_refl _, h2⟩, rfl, Ru _ _ _ _ _ _ ?_ (by omega)⟩
 simp only [maxLen]
 have : len ≤ len * i.size := Nat.le_mul_of_pos_right _ h0
 omega
theorem Ue {ty e : TypeId} {l c : Operand} (ho : o.op = .makeSlice ty l c) (hty : P.underlying ty = some (.slice e)) {i : TypeInfo} (hi : P.info? e = some i)
  {z : List LV} (hz : Db P e = some z) {l' c' : LX} (hl' : A3 l = some l') (hc' : A3 c = some c') {m : Int} (hm : (l'.ev t).asInt = some m) (hn : (c'.ev t).asInt = some m)
  (hc : 0 ≤ m ∧ m ≤ m ∧ m * i.bytes ≤ 281474976710656 ∧ m ≤ maxLen ∧ z.length = i.size ∧ 0 < i.size) (hx : XsR G t a o.op) (q : Nat) :
  B1 P o a w (Jb G w (.rs q 0 m.toNat) (.row (List.replicate m.toNat z)) q) := by
 obtain ⟨zv, hzr, hrun'⟩ := L4 (w := w) ho hty hi hz hl' hc' hm hn hc hx
 obtain ⟨c1, c2, c3, c4, c5, c6⟩ := hc
 have hr := In hzr m.toNat (by omega)
 rw [c5] at hr
 refine As hrun' ⟨.row w.heap.size i.size m.toNat, _, .inl ⟨_, i.size, m.toNat, _, e, rfl, rfl, rfl, size_madeCells _ _, by simp, hr⟩, rfl, Ru _ _ _ _ _ _ ?_ rfl⟩
 omega
def LOp.makes : LOp → Bool
 | .alloc _ | .box _ | .mkmap | .mkslice _ _ _ _ _ => true
 | .mkrow r _ _ _ _ => r
 | _ => false
theorem Nu {P : Program} {op : BinOp} {t : TypeId} {x y : Operand} {lop : LOp} (h : Jz P op t x y = some lop) : lop.makes = false := by
 unfold Jz at h
 split at h
 ·split at h <;> cases h <;> rfl
 ·split at h <;> cases h <;> rfl
 ·cases h
theorem P5 {call : CallF} {r : Bool} {lop : LOp} (hm : lop.makes = true) (hc : Bo P r o.op = some lop) {st st' : List LObj} {v : LV} (hs : Ao call t st lop = some (v, st')) (hx : XsR G t a o.op) :
  ∃ x, st' = st ++ [x] ∧ ((∃ es, x = .row es) ∨ (∃ kv, x = .map kv) → B1 P o a w (Jb G w v x st.length)) := by
 cases hop : o.op
 case alloc e =>
  simp only [hop, Bo] at hc
  split at hc <;> cases hc
  simp only [Ao] at hs; cases hs
  exact ⟨_, rfl, fun _ => Zu hop ‹_› _⟩
 case box e x =>
  simp only [hop, Bo] at hc
  split at hc <;> cases hc
  simp only [Ao] at hs
  split at hs <;> cases hs
  exact ⟨_, rfl, fun _ => mk_box hop ‹_› ‹_› hx _⟩
 case buildSlice ty len parts =>
  simp only [hop, Bo] at hc
  split at hc
  ·split at hc
   ·split at hc
    ·rename_i hcond
     cases hc
     simp only [LOp.makes] at hm
     simp only [Ao, hm, if_true] at hs
     split at hs
     ·cases hs
     ·split at hs
      ·cases hs
      ·cases hs
       exact ⟨_, rfl, fun _ => Zw hop ‹_› ‹_› ‹_› ‹_› hcond.1 hcond.2.1 hcond.2.2 ‹_› ‹_› hx _⟩
    ·cases hc
   ·cases hc
  ·cases hc
 case makeMap ty res =>
  simp only [hop] at hc
  cases res <;> simp only [Bo] at hc <;> cases hc
  simp only [Ao] at hs; cases hs
  exact ⟨_, rfl, fun _ => Zv hop _⟩
 case makeSlice ty l c =>
  simp only [hop, Bo] at hc
  split at hc
  ·split at hc
   ·cases hc
    simp only [Ao] at hs
    split at hs
    ·split at hs
     ·rename_i hcond
      split at hs
      ·cases hs
       exact ⟨_, rfl, fun h => by rcases h with ⟨_, h⟩ | ⟨_, h⟩ <;> cases h⟩
      ·split at hs
       ·rename_i h0
        cases hs
        subst h0
        exact ⟨_, rfl, fun _ => Ue hop ‹_› ‹_› ‹_› ‹_› ‹_› ‹_› ‹_› hcond hx _⟩
       ·cases hs
     ·cases hs
    ·cases hs
   ·cases hc
  ·cases hc
 all_goals
  exfalso
  simp only [hop] at hc
  first
   | (simp only [Bo] at hc
      have hinv := We hc
      clear hc
      rcases hinv with hc | ⟨_, _, _, _, hc, rfl⟩ | ⟨_, _, hc, rfl⟩
      ·unfold Gg at hc
       simp only at hc
       repeat' split at hc
       all_goals first | contradiction | (cases hc; cases hm; done) | (cases hc; done)
      ·cases hm
      ·cases hm)
   | (unfold Bo Gg at hc
      simp only at hc
      repeat' split at hc
      all_goals first | contradiction | (cases hc; cases hm; done) | (cases hc; done) | (rw [Nu hc] at hm; cases hm; done))
   | (unfold Bo at hc
      simp only at hc
      repeat' split at hc
      all_goals first | contradiction | (cases hc; cases hm; done) | (cases hc; done) | (rw [Nu hc] at hm; cases hm; done))
theorem Rv {call : CallF} {r : Bool} {lop : LOp} (hm : lop.makes = true) (hc : K1 P r o.op = some lop) {st st' : List LObj} {v : LV} (hs : Ao call t st lop = some (v, st')) (hx : XsR G t a o.op) :
  ∃ x, st' = st ++ [x] ∧ ((∃ es, x = .row es) ∨ (∃ kv, x = .map kv) → B1 P o a w (Jb G w v x st.length)) := by
 unfold K1 at hc
 split at hc
 ·rename_i l hl
  cases hc
  exact P5 hm hl hs hx
 ·cases hc; simp [Ao] at hs
end
end Go.LS
set_option linter.unusedVariables false
set_option linter.unusedSimpArgs false
namespace Go.LS
def Gk (ops : Array Oper) (o : Oper) : Option (Option (Nat × Bool)) :=
 match o.guard with
 | none => some none
 | some (j, want) => match (ops[j]?).bind (·.dst) with
  | some d => some (some (d, want))
  | none => none
def Ft (P : Program) (r : Bool) (ops : Array Oper) (o : Oper) : Option D4 :=
 match Gk ops o, K1 P r o.op with
 | some g, some op => some ⟨o.dst, op, g⟩
 | _, _ => none
def Ej (P : Program) (rs : Nat → Bool) (ops : Array Oper) : Nat → List Oper → Option (List D4)
 | _, [] => some []
 | i, o :: r => match Ft P (rs i) ops o, Ej P rs ops (i + 1) r with
  | some x, some l => some (x :: l)
  | _, _ => none
def TR (G : Gh) (t : List LV) (a : Act) : Prop := a.tmps.size = t.length ∧ ∀ (i : Nat) v, t[i]? = some v → VL G v (a.tmps.getD i undef)
theorem TR.mono {G G' : Gh} (hG : G.le G') {t : List LV} {a : Act} (h : TR G t a) : TR G' t a := ⟨h.1, fun i v hv => (h.2 i v hv).mono hG⟩
theorem TR.get {G : Gh} {t : List LV} {a : Act} (h : TR G t a) (i : Nat) : VL G (t.getD i .und) (a.tmps.getD i undef) := by
 cases hi : t[i]? with
 | none => simp [List.getD, hi]; exact .und _
 | some v => simp only [List.getD, hi, Option.getD_some]; exact h.2 i v hi
theorem TR.xs {G : Gh} {t : List LV} {a : Act} (h : TR G t a) (op : Op) : XsR G t a op := by
 intro x _ y hy
 cases x with
 | tmp i => simp only [A3] at hy; cases hy; exact h.get i
 | const v =>
  simp only [A3] at hy
  split at hy <;> cases hy
  exact Eu G ‹_›
 | func f =>
  simp only [A3] at hy; cases hy
  exact .fn _ #[] #[] rfl rfl (by simp) (by simp)
 | global g => simp [A3] at hy
theorem TR.put {G : Gh} {t : List LV} {a : Act} (h : TR G t a) {v : LV} {u : Value} (hv : VL G v u) (dst : Option Nat) : TR G (Hs t dst v) (a.put dst u) := by
 cases dst with
 | none => exact h
 | some d =>
  refine ⟨by simp [Hs, Act.put, h.1], fun i x hx => ?_⟩
  simp only [Hs] at hx
  rcases Bt hx with ⟨e, hx⟩ | ⟨rfl, hlt, rfl⟩
  ·have := h.2 i x hx
   simp only [Act.put]
   rw [Array.getD_eq_getD_getElem?, Array.getElem?_setIfInBounds_ne (Ne.symm e), ← Array.getD_eq_getD_getElem?]
   exact this
  ·simp only [Act.put]
   rw [Array.getD_eq_getD_getElem?, Array.getElem?_setIfInBounds_self_of_lt (by rw [h.1]; exact hlt)]
   exact hv
theorem O9 {G : Gh} {t : List LV} {a : Act} (hsz : a.tmps.size = t.length) {ops : Array Oper} {o : Oper} {g : Option (Nat × Bool)} (hg : Gk ops o = some g)
  (hv : ∀ j want d, o.guard = some (j, want) → (ops[j]?).bind (·.dst) = some d → VL G (t.getD d .und) (a.tmps.getD d undef)) {b : Bool} (hb : gd t g = some b) :
  Region.wanted o (yielded ops a.tmps) = b := by
 unfold Gk at hg
 unfold Region.wanted
 split at hg
 ·rename_i e
  cases hg
  simp only [gd] at hb; cases hb
  rw [e]
 ·rename_i j want e
  split at hg
  ·rename_i d hd
   cases hg
   have hv := hv j want d e hd
   rw [e]
   simp only [gd] at hb
   split at hb
   ·rename_i x hx
    cases hb
    rw [hx] at hv
    have hlt : d < t.length := by
     rcases Nat.lt_or_ge d t.length with h' | h'
     ·exact h'
     ·simp [List.getD, List.getElem?_eq_none h'] at hx
    have hlt' : d < a.tmps.size := by rw [hsz]; exact hlt
    have hu := hv.bool_inv
    have : a.tmps[d]? = some (.bool x) := by
     rw [Array.getD_eq_getD_getElem?, Array.getElem?_eq_getElem hlt'] at hu
     rw [Array.getElem?_eq_getElem hlt']
     simpa using hu
    simp [yielded, hd, this]
   ·rename_i hx
    cases hb
    rw [hx] at hv
    obtain ⟨vs, hu, hs, _⟩ := hv.tup_inv
    have : yielded ops a.tmps j = none := by
     simp only [yielded, hd, Option.bind_some]
     cases hq : a.tmps[d]? with
     | none => rfl
     | some z =>
      have : z = .tuple vs := by rw [Array.getD_eq_getD_getElem?, hq] at hu; simpa using hu
      rw [this]
    simp [this]
   ·cases hb
  ·cases hg
theorem Rw {G : Gh} {t : List LV} {a : Act} (h : TR G t a) {ops : Array Oper} {o : Oper} {g : Option (Nat × Bool)} (hg : Gk ops o = some g) {b : Bool} (hb : gd t g = some b) :
  Region.wanted o (yielded ops a.tmps) = b := O9 h.1 hg (fun _ _ d _ _ => h.get d) hb
theorem Pa {P : Program} {call : CallF} (hok : Ei P call) {ops : Array Oper} {rs : Nat → Bool} {Q : Exit → Act → World → Prop} : ∀ (l : List Oper) (k : Nat) (los : List D4) {t t' : List LV} {st st' : List LObj} {G : Gh} {w : World} {a : Act},
  (∀ i, l[i]? = ops[k + i]?) → Ej P rs ops k l = some los → Gc call los t st = some (t', st') → WR G st w → TR G t a →
  (∀ a' w' G', WR G' st' w' → TR G' t' a' → Ext0 G st w G' st' w' → a'.defers = a.defers → Q .normal a' w') → wpOps P ops Q (List.range' k l.length) a w
 | [], k, los, t, t', st, st', G, w, a, hl, hc, hr, h, ht, hq => by
  simp only [Ej] at hc; cases hc
  simp only [Gc, Option.some.injEq, Prod.mk.injEq] at hr
  obtain ⟨rfl, rfl⟩ := hr
  exact hq a w G h ht (Ext.refl ..).to0 rfl
 | o :: l, k, los, t, t', st, st', G, w, a, hl, hc, hr, h, ht, hq => by
  simp only [Ej] at hc
  split at hc
  ·rename_i x lr hx hlr
   cases hc
   unfold Ft at hx
   split at hx
   ·rename_i g op hg hop
    cases hx
    have hk : ops[k]? = some o := by have := hl 0; simpa using this.symm
    have hrest : ∀ i, l[i]? = ops[(k + 1) + i]? := fun i => by have := hl (i + 1); simpa [Nat.add_assoc, Nat.add_comm 1 i] using this
    simp only [List.length_cons, List.range'_succ, wpOps, hk]
    simp only [Gc] at hr
    split at hr
    ·rename_i v st1 hstep
     unfold C1 at hstep
     simp only at hstep
     have go : ∀ (u : Value) (w1 : World) (G1 : Gh), WR G1 st1 w1 → VL G1 v u → Ext0 G st w G1 st1 w1 → wpOps P ops Q (List.range' (k + 1) l.length) (a.put o.dst u) w1 := by
      intro u w1 G1 h1 hv hx1
      refine Pa hok l (k + 1) lr hrest hlr hr h1 ((ht.mono hx1.le).put hv o.dst) ?_
      intro a' w' G' g1 g2 g3 g4
      exact hq a' w' G' g1 g2 (hx1.trans g3) (by rw [g4]; cases o.dst <;> rfl)
     split at hstep
     ·rename_i hgd
      rw [if_pos (Rw ht hg hgd)]
      refine .inl (Nt hok hop hstep h (ht.xs _) _ _ ?_)
      rintro u w1 ⟨G1, g1, g2, g3⟩
      exact go u w1 G1 g1 g2 g3.to0
     ·rename_i hgd
      cases hstep
      have hw := Rw ht hg hgd
      rw [if_neg (by rw [hw]; simp)]
      exact go undef w G h (.unit G) (Ext.refl ..).to0
     ·cases hstep
    ·cases hr
   ·cases hx
  ·cases hc
def LX.tmps : LX → List Nat
 | .tmp t => [t]
 | .const _ => []
def LOp.reads : LOp → List Nat
 | .mv x | .retire x | .nileq _ _ x | .box x | .load _ _ x | .nilChk x | .un _ x | .cv _ x | .iface _ x | .fieldAddr _ x | .field _ _ _ x | .range x | .next x | .extract x _ | .len x | .slen x | .mlen x | .cap x => x.tmps
 | .pick a b c => a.tmps ++ b.tmps ++ c.tmps
 | .alloc _ | .mkmap | .const _ | .fail => []
 | .build _ ps => ps.flatMap fun p => p.2.2.tmps
 | .mkrow _ _ _ _ ps => ps.flatMap fun p => p.2.tmps
 | .store _ x y | .seq _ _ x y | .bin _ x y | .beq _ x y | .peq _ x y | .indexAddr _ x y | .arrAddr _ _ x y | .index x y | .arrIndex _ _ _ x y | .lookup _ _ _ x y | .delete _ x y | .append _ _ _ x y | .grow _ _ x y | .mx x y | .mn x y | .mkslice _ _ _ x y => x.tmps ++ y.tmps
 | .fn _ cs => cs.flatMap LX.tmps
 | .fnm _ fs cs => fs.flatMap LX.tmps ++ cs.flatMap LX.tmps
 | .clearS _ x => x.tmps
 | .appendR _ _ x y => x.tmps ++ y.tmps
 | .sslice x a b c | .slice _ x a b c => x.tmps ++ (a.map LX.tmps).getD [] ++ (b.map LX.tmps).getD [] ++ (c.map LX.tmps).getD []
 | .mapUpdate _ a b c => a.tmps ++ b.tmps ++ c.tmps
 | .call _ xs => xs.flatMap LX.tmps
 | .callz _ xs => xs.flatMap LX.tmps
 | .callv f xs => f.tmps ++ xs.flatMap LX.tmps
def P6 : List D4 → List Nat → List Nat
 | [], out => out
 | o :: r, out =>
  let l := P6 r out
  let l := match o.dst with | some d => l.filter (· != d) | none => l
  o.op.reads ++ (match o.guard with | some (j, _) => [j] | none => []) ++ l
def Wi (l : List Nat) : List Nat := l.foldl (fun acc x => if acc.contains x then acc else x :: acc) []
def Kf (ret : List Nat) : B0 → List Nat → List (Nat × List Nat) → List Nat
 | .skip, out, _ => out
 | .region ops, out, _ => Wi (P6 ops out)
 | .drawn ops, out, _ => Wi (P6 (ops.map (·.op)) out)
 | .seq a b, out, env => Kf ret a (Kf ret b out env) env
 | .cond x a b, out, env => Wi (x.tmps ++ Kf ret a out env ++ Kf ret b out env)
 | .El x a b c, out, env => Wi (x.tmps ++ Kf ret a (Kf ret c out env) env ++ Kf ret b (Kf ret c out env) env)
 | .block id _ c, out, env => Kf ret c out ((id, out) :: env)
 | .loop _ c, _, env => Kf ret c [] env
 | .exit id _, _, env => (env.lookup id).getD []
 | .ret _, _, _ => ret
 | .fail, _, _ => []
def annot (n : Nat) (ret : List Nat) : B0 → List Nat → List (Nat × List Nat) → B0
 | .seq a b, out, env => .seq (annot n ret a (Kf ret b out env) env) (annot n ret b out env)
 | .cond x a b, out, env => .cond x (annot n ret a out env) (annot n ret b out env)
 | .El x a b c, out, env => .El x (annot n ret a (Kf ret c out env) env) (annot n ret b (Kf ret c out env) env) (annot n ret c out env)
 | .block id _ c, out, env => .block id ((List.range n).map fun i => out.contains i) (annot n ret c out ((id, out) :: env))
 | .loop _ c, _, env =>
  let l := Kf ret c [] env
  .loop ((List.range n).map fun i => l.contains i) (annot n ret c l env)
 | .exit id _, _, env => .exit id ((List.range n).map fun i => ((env.lookup id).getD []).contains i)
 | .ret _, _, _ => .ret ((List.range n).map fun i => ret.contains i)
 | c, _, _ => c
end Go.LS
set_option linter.unusedVariables false
set_option linter.unusedSimpArgs false
namespace Go.LS
def Uf (P : Program) (ops : Array Oper) (los : List DOp) : Prop :=
 ∀ call, Ei P call → ∀ t st t' st' G w a (Q : Exit → Act → World → Prop) id, Cu call los [] t st = some (t', st') → WR G st w → TR G t a →
  (∀ a' w' G', WR G' st' w' → TR G' t' a' → Ext0 G st w G' st' w' → a'.defers = a.defers → Q .normal a' w') → (Code.region id ops true).wp P Q a w
inductive CR (P : Program) : Code → B0 → Prop where
 | skip : CR P .skip .skip
 | region (id : Nat) {ops : Array Oper} {rs : Nat → Bool} {los : List D4} (h : Ej P rs ops 0 ops.toList = some los) : CR P (.region id ops false) (.region los)
 | drawn (id : Nat) {ops : Array Oper} {los : List DOp} (h : Uf P ops los) : CR P (.region id ops true) (.drawn los)
 | seq {a b : Code} {la lb : B0} (h1 : CR P a la) (h2 : CR P b lb) : CR P (.seq a b) (.seq la lb)
 | cond {x : Operand} {y : LX} {a b : Code} {la lb : B0} (hx : A3 x = some y) (h1 : CR P a la) (h2 : CR P b lb) : CR P (.cond x a b) (.cond y la lb)
 | El {r : Code} {x : Operand} {y : LX} {a b c : Code} {lr la lb lc : B0} (hx : A3 x = some y) (hr : CR P r lr) (h1 : CR P a la) (h2 : CR P b lb) (h3 : CR P c lc) : CR P (.seq (.seq r (.cond x a b)) c) (.seq lr (.El y la lb lc))
 | block (id : Nat) (mask : List Bool) {c : Code} {lc : B0} (h : CR P c lc) : CR P (.block id c) (.block id mask lc)
 | loop (mask : List Bool) {c : Code} {lc : B0} (h : CR P c lc) : CR P (.loop c) (.loop mask lc)
 | exit (id : Nat) (mask : List Bool) : CR P (.exit id) (.exit id mask)
 | ret (mask : List Bool) : CR P .ret (.ret mask)
 | fail (c : Code) : CR P c .fail
def Hi : Dj → Exit → Prop
 | .normal, .normal => True
 | .exit i, .exit j => i = j
 | .ret, .ret => True
 | _, _ => False
theorem Nv : ∀ (m : List Bool) (t : List LV), (kill m t).length = t.length
 | true :: m, v :: t => by simp [kill, Nv m t]
 | false :: m, v :: t => by simp [kill, Nv m t]
 | [], t => by cases t <;> simp [kill]
 | true :: _, [] => by simp [kill]
 | false :: _, [] => by simp [kill]
theorem Nw : ∀ (m : List Bool) (t : List LV) (i : Nat) v, (kill m t)[i]? = some v → v = .und ∨ t[i]? = some v
 | true :: m, x :: t, i, v, h => by
  simp only [kill] at h
  cases i with
  | zero => simp at h; simp [h]
  | succ i => simp at h; simpa using Nw m t i v h
 | false :: m, x :: t, i, v, h => by
  simp only [kill] at h
  cases i with
  | zero => simp at h; simp [h]
  | succ i => simp at h; simpa using Nw m t i v h
 | [], t, i, v, h => by cases t <;> simp_all [kill]
 | true :: _, [], i, v, h => by simp [kill] at h
 | false :: _, [], i, v, h => by simp [kill] at h
theorem TR.kill {G : Gh} {t : List LV} {a : Act} (h : TR G t a) (m : List Bool) : TR G (kill m t) a :=
 ⟨by rw [Nv]; exact h.1, fun i v hv => by
  rcases Nw m t i v hv with rfl | h'
  ·exact .und _
  ·exact h.2 i v h'⟩
section
variable {P : Program} {call : CallF}
theorem VL.anyb_inv {G : Gh} {u : Value} (h : VL G .anyb u) : ∃ b, u = .bool b := by cases h; exact ⟨_, rfl⟩
theorem Ug (hok : Ei P call) {G0 : Gh} {st0 : List LObj} {w0 : World} (hd : ∀ o, st0.length ≤ o → G0.loc o = none ∧ ∀ f, G0.hist o f = none) :
  ∀ (n : Nat) {c : Code} {lc : B0} {out : Dj} {t t' : List LV} {st st' : List LObj} {G : Gh} {w : World} {a : Act} {Q : Exit → Act → World → Prop},
  CR P c lc → Bk call st0.length n lc t st = some (out, t', st') → WR G st w → TR G t a → Ext0 G0 st0 w0 G st w →
  (∀ e a' w' G', Hi out e → WR G' st' w' → TR G' t' a' → Ext0 G0 st0 w0 G' st' w' → a'.defers = a.defers → Q e a' w') → c.wp P Q a w := by
 intro n
 induction n using Nat.strongRecOn with
 | _ n ih =>
  intro c lc out t t' st st' G w a Q hcr he h ht hx hq
  cases n with
  | zero => simp [Bk] at he
  | succ n =>
   cases hcr with
   | skip =>
    simp only [Bk, Option.some.injEq, Prod.mk.injEq] at he
    obtain ⟨rfl, rfl, rfl⟩ := he
    exact wp_skip (hq .normal a w G trivial h ht hx rfl)
   | fail => simp [Bk] at he
   | exit id mask =>
    simp only [Bk, Option.some.injEq, Prod.mk.injEq] at he
    obtain ⟨rfl, rfl, rfl⟩ := he
    exact wp_exit (hq (.exit id) a w G rfl h (ht.kill mask) hx rfl)
   | ret mask =>
    simp only [Bk, Option.some.injEq, Prod.mk.injEq] at he
    obtain ⟨rfl, rfl, rfl⟩ := he
    exact wp_ret (hq .ret a w G trivial h (ht.kill mask) hx rfl)
   | region id hc =>
    rename_i ops rs los
    simp only [Bk] at he
    split at he
    ·rename_i t1 st1 hr
     cases he
     refine wp_region ?_
     have := Pa (P := P) (Q := Q) hok ops.toList 0 los (by intro i; simp) hc hr h ht (fun a' w' G' g1 g2 g3 g4 => hq .normal a' w' G' trivial g1 g2 (hx.trans g3) g4)
     rw [List.range_eq_range']
     simpa using this
    ·cases he
   | drawn id hdr =>
    simp only [Bk] at he
    split at he
    ·rename_i t1 st1 hr
     cases he
     exact hdr call hok _ _ _ _ G w a Q id hr h ht (fun a' w' G' g1 g2 g3 g4 => hq .normal a' w' G' trivial g1 g2 (hx.trans g3) g4)
    ·cases he
   | seq h1 h2 =>
    rename_i ca cb la lb
    have go : ∀ {ca : Code} {la : B0}, CR P ca la → Du (Bk call st0.length n la t st) (Bk call st0.length n lb) = some (out, t', st') → ca.wp P (Exit.then (cb.wp P Q) Q) a w := by
     intro ca la h1 he
     unfold Du at he
     cases hr : Bk call st0.length n la t st with
     | none => rw [hr] at he; cases he
     | some r =>
      obtain ⟨o1, t1, st1⟩ := r
      rw [hr] at he
      refine ih n (by omega) h1 hr h ht hx ?_
      intro e a1 w1 G1 ho g1 g2 g3 g4
      cases o1 with
      | normal =>
       cases e <;> simp [Hi] at ho
       simp only [Exit.then]
       exact ih n (by omega) h2 he g1 g2 g3 (fun e a' w' G' k1 k2 k3 k4 k5 => hq e a' w' G' k1 k2 k3 k4 (k5.trans g4))
      | exit i =>
       cases he
       cases e <;> simp [Hi] at ho
       subst ho
       exact hq (.exit i) a1 w1 G1 rfl g1 g2 g3 g4
      | ret =>
       cases he
       cases e <;> simp [Hi] at ho
       exact hq .ret a1 w1 G1 trivial g1 g2 g3 g4
    simp only [Bk] at he
    exact wp_seq (go h1 he)
   | El hxx hr h1 h2 h3 =>
    rename_i cr xo y ca cb cc lr la lb lc
    simp only [Bk] at he
    refine wp_seq (wp_seq ?_)
    unfold Du at he
    cases hre : Bk call st0.length n lr t st with
    | none => rw [hre] at he; cases he
    | some r =>
     obtain ⟨o1, t1, st1⟩ := r
     rw [hre] at he
     refine ih n (by omega) hr hre h ht hx ?_
     intro e a1 w1 G1 ho g1 g2 g3 g4
     cases o1 with
     | exit i =>
      cases he
      cases e <;> simp [Hi] at ho
      subst ho
      exact hq (.exit i) a1 w1 G1 rfl g1 g2 g3 g4
     | ret =>
      cases he
      cases e <;> simp [Hi] at ho
      exact hq .ret a1 w1 G1 trivial g1 g2 g3 g4
     | normal =>
      cases e <;> simp [Hi] at ho
      simp only [Exit.then]
      cases n with
      | zero => simp [Bk] at he
      | succ n =>
       have go : ∀ {cz : Code} {lz : B0}, CR P cz lz → Du (Bk call st0.length n lz t1 st1) (Bk call st0.length n lc) = some (out, t', st') → cz.wp P (Exit.then (cc.wp P Q) Q) a1 w1 := by
        intro cz lz hz he
        unfold Du at he
        cases hrz : Bk call st0.length n lz t1 st1 with
        | none => rw [hrz] at he; cases he
        | some rz =>
         obtain ⟨o2, t2, st2⟩ := rz
         rw [hrz] at he
         refine ih n (by omega) hz hrz g1 g2 g3 ?_
         intro e2 a2 w2 G2 ho2 k1 k2 k3 k4
         cases o2 with
         | normal =>
          cases e2 <;> simp [Hi] at ho2
          simp only [Exit.then]
          exact ih n (by omega) h3 he k1 k2 k3 (fun e a' w' G' m1 m2 m3 m4 m5 => hq e a' w' G' m1 m2 m3 m4 (m5.trans (k4.trans g4)))
         | exit i =>
          cases he
          cases e2 <;> simp [Hi] at ho2
          subst ho2
          exact hq (.exit i) a2 w2 G2 rfl k1 k2 k3 (k4.trans g4)
         | ret =>
          cases he
          cases e2 <;> simp [Hi] at ho2
          exact hq .ret a2 w2 G2 trivial k1 k2 k3 (k4.trans g4)
       have fin : ∀ {cz : Code}, cz.wp P (Exit.then (cc.wp P Q) Q) a1 w1 → cz.wp P (Exit.then (cc.wp P Q) (Exit.then (cc.wp P Q) Q)) a1 w1 := fun hz => wp_mono hz (fun e a w he => by cases e <;> exact he)
       simp only [Bk] at he
       have hv := g2.xs (.move xo) xo (by simp [Op.operands]) _ hxx
       split at he
       ·rename_i hb
        rw [hb] at hv
        exact wp_cond_true hv.bool_inv (go h1 he)
       ·rename_i hb
        rw [hb] at hv
        exact wp_cond_false hv.bool_inv (go h2 he)
       ·rename_i hb
        rw [hb] at hv
        obtain ⟨e1, e2⟩ := Jv he
        obtain ⟨b, hu⟩ := hv.anyb_inv
        cases b
        ·exact wp_cond_false hu (go h2 e2)
        ·exact wp_cond_true hu (go h1 e1)
       ·cases he
   | cond hxx h1 h2 =>
    rename_i xo y ca cb la lb
    simp only [Bk] at he
    have hv := ht.xs (.move xo) xo (by simp [Op.operands]) _ hxx
    split at he
    ·rename_i hb
     rw [hb] at hv
     exact wp_cond_true hv.bool_inv (ih n (by omega) h1 he h ht hx hq)
    ·rename_i hb
     rw [hb] at hv
     exact wp_cond_false hv.bool_inv (ih n (by omega) h2 he h ht hx hq)
    ·rename_i hb
     rw [hb] at hv
     obtain ⟨e1, e2⟩ := Jv he
     obtain ⟨b, hu⟩ := hv.anyb_inv
     cases b
     ·exact wp_cond_false hu (ih n (by omega) h2 e2 h ht hx hq)
     ·exact wp_cond_true hu (ih n (by omega) h1 e1 h ht hx hq)
    ·cases he
   | block id mask h1 =>
    rename_i ca la
    simp only [Bk] at he
    refine wp_block ?_
    cases hr : Bk call st0.length n la t st with
    | none => rw [hr] at he; cases he
    | some r =>
     obtain ⟨o1, t1, st1⟩ := r
     rw [hr] at he
     refine ih n (by omega) h1 hr h ht hx ?_
     intro e a1 w1 G1 ho g1 g2 g3 g4
     cases o1 with
     | normal =>
      cases he
      cases e <;> simp [Hi] at ho
      exact hq .normal a1 w1 G1 trivial g1 (g2.kill mask) g3 g4
     | exit i =>
      simp only at he
      cases e <;> simp [Hi] at ho
      subst ho
      simp only [Exit.inBlock]
      split at he
      ·rename_i e; cases he; rw [if_pos e]; exact hq .normal a1 w1 G1 trivial g1 (g2.kill mask) g3 g4
      ·rename_i e; cases he; rw [if_neg e]; exact hq (.exit i) a1 w1 G1 rfl g1 g2 g3 g4
     | ret =>
      cases he
      cases e <;> simp [Hi] at ho
      exact hq .ret a1 w1 G1 trivial g1 g2 g3 g4
   | loop mask h1 =>
    rename_i ca la
    have key : ∀ m, m ≤ n + 1 → ∀ {t : List LV} {st : List LObj} {G : Gh} {w : World} {a' : Act}, Bk call st0.length m (.loop mask la) t st = some (out, t', st') → WR G st w → TR G t a' → Ext0 G0 st0 w0 G st w →
      a'.defers = a.defers → Code.rounds P ca Q m a' w := by
     intro m
     induction m with
     | zero => intro _ t st G w a' he; simp [Bk] at he
     | succ m ihm =>
      intro hm t st G w a' he h ht hx hdf
      rw [rounds_succ]
      simp only [Bk] at he
      split at he
      ·rename_i t2 st2 hg
       have g2' := ht.kill mask
       obtain ⟨G2, q1, q2, q3, q4⟩ := Np h hx hd hg (us := a'.tmps.toList) (by simpa using g2'.1) (fun i v u hv hu => by
        have := g2'.2 i v hv
        simp at hu
        rwa [getD_some hu] at this)
       have ht2 : TR G2 t2 a' := ⟨by rw [q3]; exact g2'.1, fun i v hv => by
        have hlt : i < a'.tmps.size := by
         have h1 := (List.getElem?_eq_some_iff.1 hv).1
         have h2 := g2'.1
         omega
        have := q4 i v a'.tmps[i] hv (by simp [hlt])
        simpa [hlt] using this⟩
       cases hr : Bk call st0.length m la t2 st2 with
       | none => rw [hr] at he; cases he
       | some r =>
        obtain ⟨o1, t1, st1⟩ := r
        rw [hr] at he
        refine ih m (by omega) h1 hr q1 ht2 q2 ?_
        intro e a1 w1 G1 ho g1 g2 g3 g4
        cases o1 with
        | normal =>
         cases e <;> simp [Hi] at ho
         simp only [Exit.then]
         exact ihm (by omega) he g1 g2 g3 (g4.trans hdf)
        | exit i =>
         cases he
         cases e <;> simp [Hi] at ho
         subst ho
         exact hq (.exit i) a1 w1 G1 rfl g1 g2 g3 (g4.trans hdf)
        | ret =>
         cases he
         cases e <;> simp [Hi] at ho
         exact hq .ret a1 w1 G1 trivial g1 g2 g3 (g4.trans hdf)
      ·cases he
    exact wp_loop_rounds (n + 1) (key (n + 1) (Nat.le_refl _) he h ht hx rfl)
def F6 (P : Program) : List ResultVar → Option (List LRes)
 | [] => some []
 | .tmp t :: r => match F6 P r with
  | some l => some (.tmp t :: l)
  | none => none
 | .cell t ty :: r => match K0 P ty, F6 P r with
  | some (agg, n), some l => if agg = true ∨ n = 1 then some (.cell t agg n :: l) else none
  | _, _ => none
structure FR (P : Program) (f : FuncId) (lf : LFn) : Prop where
 fn : ∃ fn c, P.funcs[f]? = some fn ∧ fn.body = some c ∧ fn.ntmps = lf.ntmps ∧ CR P c lf.body ∧ F6 P fn.results.toList = some lf.results
 plain : Fa P f = true
def resF (tmps : Array Value) : ResultVar → Sem Value
 | .tmp t => pure (tmps.getD t undef)
 | .cell x ty => do loadVar ty (← asAddr (tmps.getD x undef))
theorem Uh (fn : Func) (tmps : Array Value) : results fn tmps = (do let vs ← fn.results.mapM (resF tmps); pure (if h : vs.size = 1 then vs[0] else .tuple vs)) := by
 unfold results
 congr 1
theorem K9 {G : Gh} {st : List LObj} {w : World} {t : List LV} {a : Act} (h : WR G st w) (ht : TR G t a) : ∀ {rs : List ResultVar} {ls : List LRes} {vs : List LV}, F6 P rs = some ls → Jw t st ls = some vs →
  ∃ us, (rs.mapM (resF a.tmps)).run P w = .ok us w ∧ us.length = vs.length ∧ ∀ (i : Nat) v u, vs[i]? = some v → us[i]? = some u → VL G v u
 | [], ls, vs, hc, he => by
  simp only [F6] at hc; cases hc
  simp only [Jw] at he; cases he
  exact ⟨[], by simp [List.mapM_nil], rfl, by simp⟩
 | .tmp x :: rs, ls, vs, hc, he => by
  simp only [F6] at hc
  split at hc
  ·rename_i l hl
   cases hc
   simp only [Jw] at he
   split at he
   ·rename_i vl hvl
    cases he
    obtain ⟨us, h1, h2, h3⟩ := K9 h ht hl hvl
    refine ⟨a.tmps.getD x undef :: us, ?_, by simp [h2], fun i v u hv hu => ?_⟩
    ·rw [List.mapM_cons]
     simp only [resF, Sem.run_bind, Sem.run_pure, Result.andThen_ok]
     rw [h1]
     rfl
    ·cases i with
     | zero => simp only [List.getElem?_cons_zero, Option.some.injEq] at hv hu; subst hv; subst hu; exact ht.get x
     | succ i => simp at hv hu; exact h3 i v u hv hu
   ·cases he
  ·cases hc
 | .cell x ty :: rs, ls, vs, hc, he => by
  simp only [F6] at hc
  split at hc
  ·rename_i agg n l hty hl
   split at hc
   ·rename_i hn
    cases hc
    simp only [Jw] at he
    split at he
    ·rename_i cs hcs
     split at he
     ·rename_i v vl hv hvl
      cases he
      obtain ⟨us, h1, h2, h3⟩ := K9 h ht hl hvl
      obtain ⟨ad, z, hu, hr, hz⟩ := Rn (P := P) h hty hn hcs hv (ht.get x)
      refine ⟨z :: us, ?_, by simp [h2], fun i v' u hv' hu' => ?_⟩
      ·rw [List.mapM_cons]
       simp only [resF, Sem.run_bind, hu, asAddr, Sem.run_pure, Result.andThen_ok, hr]
       rw [h1]
       rfl
      ·cases i with
       | zero => simp only [List.getElem?_cons_zero, Option.some.injEq] at hv' hu'; subst hv'; subst hu'; exact hz
       | succ i => simp at hv' hu'; exact h3 i v' u hv' hu'
     ·cases he
    ·cases he
   ·cases hc
  ·cases hc
def P7 (P : Program) (f : FuncId) (g : List LV → List LObj → Option (LV × List LObj)) : Prop :=
 Fa P f = true ∧ ∀ args st res st', g args st = some (res, st') → ∀ G w us, WR G st w → ArgsR G args us →
  Calls P f us w fun e w' => ∃ u G', e = .returned u ∧ WR G' st' w' ∧ VL G' res u ∧ Ext0 G st w G' st' w'
structure PR (P : Program) (lp : Bs) : Prop where
 fns : ∀ f lf, lp.fns f = some lf → FR P f lf
 summ : ∀ f g, lp.summ f = some g → P7 P f g
theorem P8 {G : Gh} {vs : List LV} {us : List Value} (hl : us.length = vs.length) (h : ∀ (i : Nat) v u, vs[i]? = some v → us[i]? = some u → VL G v u) :
  VL G (Ht vs) (if h : us.toArray.size = 1 then us.toArray[0] else .tuple us.toArray) := by
 have htup : VL G (.tup vs) (.tuple us.toArray) := .tup _ (by simpa using hl) fun i x hx => by
  have hi : i < us.length := by rw [hl]; exact (List.getElem?_eq_some_iff.1 hx).1
  have := h i x us[i] hx (by simp [hi])
  simpa [hi] using this
 match vs, us, hl with
 | [], [], _ => simpa [Ht] using htup
 | [v], [u], _ => simpa [Ht] using h 0 v u rfl rfl
 | v :: v' :: vs, u :: u' :: us, _ => simpa [Ht] using htup
theorem Ui {lp : Bs} (hp : PR P lp) : ∀ n, Ei P (Dr lp n) := by
 intro n
 induction n with
 | zero => intro f args st res st' h; simp [Dr] at h
 | succ n ih =>
  intro f args st res st' hr
  simp only [Dr] at hr
  split at hr
  ·rename_i g hg
   have := hp.summ f g hg
   exact ⟨this.1, fun G w us h ha => this.2 _ _ _ _ hr G w us h ha⟩
  ·split at hr
   ·cases hr
   ·rename_i lf hlf
    obtain ⟨⟨fn, c, hf, hb, hnt, hcr, hres⟩, hpl⟩ := hp.fns f lf hlf
    refine ⟨hpl, fun G w us h ha => ?_⟩
    refine calls_of_wp hf hb ?_
    replace ha := ha.wk (lp.weak f)
    rw [← Zp (lp.weak f) args] at hr
    revert ha hr
    generalize LS.wk (lp.weak f) args = args
    intro hr ha
    have ht : TR G (args ++ List.replicate (lf.ntmps - args.length) .und) { tmps := us ++ Array.replicate (fn.ntmps - us.size) undef, defers := [] } := by
     refine ⟨by simp [ha.1, hnt], fun i v hv => ?_⟩
     by_cases hi : i < args.length
     ·rw [List.getElem?_append_left hi] at hv
      have := ha.2 i v hv
      rw [Array.getD_eq_getD_getElem?, Array.getElem?_append_left (by rw [ha.1]; exact hi), ← Array.getD_eq_getD_getElem?]
      exact this
     ·rw [List.getElem?_append_right (by omega), List.getElem?_replicate] at hv
      split at hv
      ·cases hv; exact .und _
      ·cases hv
    split at hr
    ·cases hr
    ·rename_i out t1 st1 hne hex
     split at hr
     ·rename_i vs hvs
      split at hr
      ·rename_i vs' st2 hgc
       simp only [Option.some.injEq, Prod.mk.injEq] at hr
       obtain ⟨hre, hse⟩ := hr
       subst hse
       subst hre
       refine Ug ih (G0 := G) (st0 := st) (w0 := w) h.dom n hcr hex h ht (Ext.refl ..).to0 ?_
       intro e a' w' G' ho g1 g2 g3 g4
       obtain ⟨us', q1, q2, q3⟩ := K9 (P := P) g1 g2 hres hvs
       obtain ⟨G9, f1, f2, f3, f4, f5⟩ := Xv (b := lp.wres f) g1 q2 q3
       obtain ⟨G2, k1, k2, k3, k4⟩ := Np f2 (g3.trans f5) h.dom hgc f3 f4
       have hrun : (results fn a'.tmps).run P w' = .ok (if h : us'.toArray.size = 1 then us'.toArray[0] else .tuple us'.toArray) w' := by
        rw [Uh]
        have e : fn.results = fn.results.toList.toArray := by simp
        rw [e, List.mapM_toArray, ← bind_pure_comp]
        simp only [Sem.run_bind, q1, Result.andThen_ok, Sem.run_pure]
       have hfin : bodyPost P fn (fun e w' => ∃ u G', e = .returned u ∧ WR G' st2 w' ∧ VL G' (Ht vs') u ∧ Ext0 G st w G' st2 w') .ret a' w' :=
        ⟨g4, _, hrun, _, G2, rfl, k1, P8 (by rw [f3, k3]) k4, k2⟩
       cases out with
       | normal => cases e <;> simp [Hi] at ho; exact hfin
       | ret => cases e <;> simp [Hi] at ho; exact hfin
       | exit i => exact (hne i rfl).elim
      ·cases hr
     ·cases hr
    ·cases hr
end
end Go.LS
set_option linter.unusedVariables false
set_option linter.unusedSimpArgs false
namespace Go.LS
inductive Dep (ops : Array Oper) : Nat → Nat → Prop where
 | one {j : Nat} {o : Oper} {e : Edge} (h1 : ops[j]? = some o) (h2 : e ∈ o.after) (h3 : Region.binds .any e = true) : Dep ops j e.on
 | more {j : Nat} {o : Oper} {e : Edge} {i : Nat} (h1 : ops[j]? = some o) (h2 : e ∈ o.after) (h3 : Region.binds .any e = true) (h : Dep ops e.on i) : Dep ops j i
theorem Dep.done {ops : Array Oper} {L : Array Bool} (hd : ∀ i, L.getD i false = true → ∀ o, ops[i]? = some o → ∀ e ∈ o.after, Region.binds .any e = true → L.getD e.on false = true)
  {j i : Nat} (h : Dep ops j i) (hj : ∀ o, ops[j]? = some o → ∀ e ∈ o.after, Region.binds .any e = true → L.getD e.on false = true) : L.getD i false = true := by
 induction h with
 | one h1 h2 h3 => exact hj _ h1 _ h2 h3
 | more h1 h2 h3 _ ih => exact ih (fun o ho e he hb => hd _ (hj _ h1 _ h2 h3) o ho e he hb)
def Zx (ops : Array Oper) (x y : Oper) : Prop :=
 (∃ d, x.dst = some d ∧ d ∈ y.looksAt ops) ∨ (∃ d, y.dst = some d ∧ d ∈ x.looksAt ops)
structure Rx (P : Program) (ops : Array Oper) (es : List DOp) : Prop where
 get : ∀ (p : Nat) (d : DOp), es[p]? = some d → ∃ o r, ops[d.idx]? = some o ∧ Ft P r ops o = some d.op ∧ (d.cls = .a → d.op.op.makes = true)
 all : ∀ i, i < ops.size → ∃ (p : Nat) (d : DOp), es[p]? = some d ∧ d.idx = i
 inj : ∀ (p q : Nat) (d e : DOp), es[p]? = some d → es[q]? = some e → d.idx = e.idx → p = q
 dsts : ∀ (p q : Nat) (d e : DOp) (x : Nat), es[p]? = some d → es[q]? = some e → d.op.dst = some x → e.op.dst = some x → p = q
 ord : ∀ (p q : Nat) (d e : DOp) (o o' : Oper), p < q → es[p]? = some d → es[q]? = some e → ops[d.idx]? = some o → ops[e.idx]? = some o' → d.cls = .c ∨ Zx ops o o' → Dep ops e.idx d.idx
 must : ∀ (q : Nat) (e : DOp) (i : Nat), es[q]? = some e → i ∈ e.must → Dep ops e.idx i
 topo : ∀ (p : Nat) (d : DOp) (o : Oper) (e : Edge), es[p]? = some d → ops[d.idx]? = some o → e ∈ o.after → Region.binds .any e = true → ∃ (q : Nat) (d' : DOp), q < p ∧ es[q]? = some d' ∧ d'.idx = e.on
theorem G7 {call : CallF} {t : List LV} {st st' : List LObj} {o : D4} {v : LV} (hp : Hg o.op v = true) (hr : C1 call t st o = some (v, st')) : st' = st := by
 unfold C1 at hr
 split at hr
 ·revert hr hp
  generalize o.op = op
  intro hp hr
  cases op <;> simp only [Hg, Bool.false_eq_true] at hp
  case mkrow r size len z parts =>
   simp only [Bool.and_eq_true, Bool.not_eq_true'] at hp
   simp only [Ao, hp.1] at hr
   split at hr
   ·cases hr
   ·split at hr
    ·cases hr
    ·simp only [Bool.false_eq_true, if_false] at hr
     split at hr <;> cases hr
     ·rfl
     ·simp at hp
  all_goals
   simp only [Ao] at hr
   first
    | (cases hr; rfl)
    | (repeat' split at hr
       all_goals first | (cases hr; rfl) | cases hr)
 ·cases hr; rfl
 ·cases hr
theorem Zy {call : CallF} {t : List LV} {st st' st2 : List LObj} {o : D4} {v : LV} (hp : Hg o.op v = true) (hs : Ri t o.op = true) (hr : C1 call t st o = some (v, st')) : C1 call t st2 o = some (v, st2) := by
 unfold C1 at hr ⊢
 split at hr
 ·revert hr hp hs
  generalize o.op = op
  intro hp hs hr
  cases op <;> simp only [Hg, Bool.false_eq_true] at hp <;> simp only [Ri, Bool.false_eq_true] at hs
  case mkrow r size len z parts =>
   simp only [Bool.and_eq_true, Bool.not_eq_true'] at hp
   simp only [Ao, hp.1] at hr ⊢
   split at hr
   ·cases hr
   ·rename_i ps e1
    split at hr
    ·cases hr
    ·rename_i es e2
     simp only [Bool.false_eq_true, if_false] at hr
     split at hr <;> cases hr
     ·rename_i qs e3
      simp [e1, e2, e3]
     ·simp at hp
  case indexAddr size x i =>
   simp only [Ao] at hr ⊢
   split at hr
   ·cases hr
   ·rename_i n hn
    split at hr
    ·cases hr
    ·rename_i h0
     rw [if_neg h0]
     revert hs hr
     generalize x.ev t = xv
     intro hs hr
     split at hr
     ·simp [LV.isRs] at hs
     ·split at hr
      ·rename_i h1
       split at hr
       ·rename_i h2
        split at hr <;> cases hr
        rename_i h3
        rw [if_pos h3]
       ·cases hr
      ·cases hr
  case len x =>
   simp only [Ao] at hr ⊢
   revert hs hr
   generalize x.ev t = xv
   intro hs hr
   split at hr
   ·simp [LV.isRs] at hs
   ·split at hr
    ·rename_i h1
     cases hr
     simp only [h1]
    ·cases hr
  case slice size x lo hi mx =>
   simp only [Ao] at hr ⊢
   have : Kw size st2 (x.ev t) (lo.map (LX.ev t)) (hi.map (LX.ev t)) (mx.map (LX.ev t)) = Kw size st (x.ev t) (lo.map (LX.ev t)) (hi.map (LX.ev t)) (mx.map (LX.ev t)) := by
    revert hs
    generalize x.ev t = xv
    intro hs
    cases xv <;> first | rfl | (rename_i es; cases es <;> rfl; done) | simp [LV.isRs] at hs
   rw [this]
   split at hr <;> cases hr
   rename_i h1
   simp only [h1]
  case mx x y =>
   simp only [Ao] at hr ⊢
   split at hr
   ·simp only [Option.some.injEq, Prod.mk.injEq] at hr ⊢
    exact ⟨hr.1, trivial⟩
   ·cases hr
  case mn x y =>
   simp only [Ao] at hr ⊢
   split at hr
   ·simp only [Option.some.injEq, Prod.mk.injEq] at hr ⊢
    exact ⟨hr.1, trivial⟩
   ·cases hr
  all_goals
   simp only [Ao] at hr ⊢
   first
    | (cases hr; rfl)
    | (repeat' split at hr
       all_goals first | (simp only [Option.some.injEq, Prod.mk.injEq] at hr; simp only [hr.1]; done) | (cases hr; simp_all; done) | cases hr)
 ·cases hr; rfl
 ·cases hr
theorem Nx {call : CallF} {st : List LObj} {held : List (DOp × List LV × LV)} (h : Gd call st held = true) (hp : ∀ x ∈ held, Hg x.1.op.op x.2.2 = true) :
  ∀ x ∈ held, C1 call x.2.1 st x.1.op = some (x.2.2, st) := by
 intro x hx
 have := List.all_eq_true.1 h x hx
 split at this
 ·rename_i v s hr
  have e := LV.eq_of_eqb _ _ this
  subst e
  rw [hr, G7 (hp x hx) hr]
 ·cases this
structure Trace (call : CallF) (es : List DOp) (T : Nat → List LV) (S : Nat → List LObj) (V : Nat → LV) : Prop where
 run : ∀ (p : Nat) (d : DOp), es[p]? = some d → C1 call (T p) (S p) d.op = some (V p, S (p + 1)) ∧ T (p + 1) = Hs (T p) d.op.dst (V p)
 pure : ∀ (p : Nat) (d : DOp), es[p]? = some d → d.cls = .h → Hg d.op.op (V p) = true
 new : ∀ (p : Nat) (d : DOp), es[p]? = some d → d.cls = .a → Na (S p) (S (p + 1)) = true
 len : ∀ (p : Nat) (d : DOp), es[p]? = some d → d.cls = .c → (S p).length ≤ (S (p + 1)).length
 held : ∀ (p : Nat) (d : DOp), es[p]? = some d → d.cls = .h → ∀ m, p < m → m ≤ es.length → (∀ (q : Nat) e, p < q → q < m → es[q]? = some e → e.cls = .c → d.idx ∉ e.must) → C1 call (T p) (S m) d.op = some (V p, S m)
theorem Hz {call : CallF} : ∀ (es : List DOp) (held : List (DOp × List LV × LV)) (t t' : List LV) (st st' : List LObj), Cu call es held t st = some (t', st') →
  (∀ x ∈ held, Hg x.1.op.op x.2.2 = true ∧ C1 call x.2.1 st x.1.op = some (x.2.2, st)) →
  ∃ T S V, Trace call es T S V ∧ T 0 = t ∧ S 0 = st ∧ T es.length = t' ∧ S es.length = st' ∧
   ∀ x ∈ held, ∀ m, m ≤ es.length → (∀ (q : Nat) e, q < m → es[q]? = some e → e.cls = .c → x.1.idx ∉ e.must) → C1 call x.2.1 (S m) x.1.op = some (x.2.2, S m)
 | [], held, t, t', st, st', hr, hh => by
  simp only [Cu] at hr; cases hr
  exact ⟨fun _ => t, fun _ => st, fun _ => .und, ⟨by simp, by simp, by simp, by simp, by simp⟩, rfl, rfl, rfl, rfl, fun x hx m _ _ => (hh x hx).2⟩
 | d :: r, held, t, t', st, st', hr, hh => by
  simp only [Cu] at hr
  split at hr
  ·cases hr
  ·rename_i v st1 hstep
   have fin : ∀ (held' : List (DOp × List LV × LV)), Cu call r held' (Hs t d.op.dst v) st1 = some (t', st') → (∀ x ∈ held', Hg x.1.op.op x.2.2 = true ∧ C1 call x.2.1 st1 x.1.op = some (x.2.2, st1)) →
     (d.cls = .h → Hg d.op.op v = true ∧ (Ri t d.op.op = true ∨ (d, t, v) ∈ held')) → (d.cls = .a → Na st st1 = true) → (d.cls = .c → st.length ≤ st1.length) →
     (∀ x ∈ held, x ∈ held' ∨ (d.cls = .c ∧ x.1.idx ∈ d.must)) →
     ∃ T S V, Trace call (d :: r) T S V ∧ T 0 = t ∧ S 0 = st ∧ T (d :: r).length = t' ∧ S (d :: r).length = st' ∧
      ∀ x ∈ held, ∀ m, m ≤ (d :: r).length → (∀ (q : Nat) e, q < m → (d :: r)[q]? = some e → e.cls = .c → x.1.idx ∉ e.must) → C1 call x.2.1 (S m) x.1.op = some (x.2.2, S m) := by
    intro held' hr' h1 h2 h3 h3' h4
    obtain ⟨T, S, V, tr, e1, e2, e3, e4, e5⟩ := Hz r held' _ _ _ _ hr' h1
    refine ⟨fun | 0 => t | p + 1 => T p, fun | 0 => st | p + 1 => S p, fun | 0 => v | p + 1 => V p, ⟨?_, ?_, ?_, ?_, ?_⟩, rfl, rfl, e3, e4, ?_⟩
    ·intro p e he
     cases p with
     | zero => simp at he; subst he; exact ⟨by show C1 call t st d.op = some (v, S 0); rw [e2]; exact hstep, e1⟩
     | succ p => exact tr.run p e (by simpa using he)
    ·intro p e he hc
     cases p with
     | zero => simp at he; subst he; exact (h2 hc).1
     | succ p => exact tr.pure p e (by simpa using he) hc
    ·intro p e he hc
     cases p with
     | zero => simp at he; subst he; show Na st (S 0) = true; rw [e2]; exact h3 hc
     | succ p => exact tr.new p e (by simpa using he) hc
    ·intro p e he hc
     cases p with
     | zero => simp at he; subst he; show st.length ≤ (S 0).length; rw [e2]; exact h3' hc
     | succ p => exact tr.len p e (by simpa using he) hc
    ·intro p e he hc m hpm hm hq
     cases m with
     | zero => omega
     | succ m =>
      cases p with
      | zero =>
       simp at he; subst he
       rcases (h2 hc).2 with hst | hmem
       ·exact Zy (h2 hc).1 hst hstep
       ·exact e5 _ hmem m (by simpa using hm) (fun q e hqm he hec => hq (q + 1) e (by omega) (by omega) (by simpa using he) hec)
      | succ p =>
       exact tr.held p e (by simpa using he) hc m (by omega) (by simpa using hm) (fun q e' h1 h2 he' hec => hq (q + 1) e' (by omega) (by omega) (by simpa using he') hec)
    ·intro x hx m hm hq
     cases m with
     | zero => exact (hh x hx).2
     | succ m =>
      rcases h4 x hx with h4 | ⟨h4, h5⟩
      ·exact e5 x h4 m (by simpa using hm) (fun q e hqm he hec => hq (q + 1) e (by omega) (by simpa using he) hec)
      ·exact absurd h5 (hq 0 d (by omega) rfl h4)
   split at hr
   ·rename_i hc
    split at hr
    ·rename_i hp
     have := G7 hp hstep
     subst this
     refine fin _ hr (fun x hx => ?_) (fun _ => ⟨hp, ?_⟩) (by simp [hc]) (by simp [hc]) (fun x hx => .inl (by split <;> simp [hx]))
     ·split at hx
      ·exact hh x hx
      ·rcases List.mem_cons.1 hx with rfl | hx
       ·exact ⟨hp, hstep⟩
       ·exact hh x hx
     ·split
      ·rename_i hst; exact .inl hst
      ·exact .inr (by simp)
    ·cases hr
   ·rename_i hc
    split at hr
    ·rename_i hk
     simp only [Bool.and_eq_true] at hk
     exact fin _ hr (fun x hx => ⟨(hh x hx).1, Nx hk.2 (fun y hy => (hh y hy).1) x hx⟩) (by simp [hc]) (fun _ => hk.1) (by simp [hc]) (fun x hx => .inl hx)
    ·cases hr
   ·rename_i hc
    split at hr
    ·rename_i hk
     simp only [Bool.and_eq_true, decide_eq_true_eq] at hk
     refine fin _ hr (fun x hx => ⟨(hh x (List.mem_filter.1 hx).1).1, Nx hk.2 (fun y hy => (hh y (List.mem_filter.1 hy).1).1) x hx⟩) (by simp [hc]) (by simp [hc]) (fun _ => hk.1) (fun x hx => ?_)
     by_cases hm : x.1.idx ∈ d.must
     ·exact .inr ⟨hc, hm⟩
     ·exact .inl (List.mem_filter.2 ⟨hx, by simpa using hm⟩)
    ·cases hr
theorem Trace.tmps {call : CallF} {es : List DOp} {T : Nat → List LV} {S : Nat → List LObj} {V : Nat → LV} (tr : Trace call es T S V)
  (hd : ∀ (p q : Nat) (d e : DOp) (x : Nat), es[p]? = some d → es[q]? = some e → d.op.dst = some x → e.op.dst = some x → p = q) :
  ∀ p, p ≤ es.length → (T p).length = (T 0).length ∧ ∀ i, i < (T 0).length →
   (∀ (q : Nat) d, q < p → es[q]? = some d → d.op.dst = some i → (T p)[i]? = some (V q)) ∧ ((∀ (q : Nat) d, q < p → es[q]? = some d → d.op.dst ≠ some i) → (T p)[i]? = (T 0)[i]?) := by
 intro p
 induction p with
 | zero => intro _; exact ⟨rfl, fun i _ => ⟨fun q _ h => by omega, fun _ => rfl⟩⟩
 | succ p ih =>
  intro hp
  obtain ⟨h1, h2⟩ := ih (by omega)
  have hlt : p < es.length := by omega
  have hget : es[p]? = some es[p] := by simp [hlt]
  obtain ⟨_, ht⟩ := tr.run p _ hget
  rw [ht]
  refine ⟨by cases es[p].op.dst <;> simp [Hs, h1], fun i hi => ⟨fun q d hq hd' hdst => ?_, fun hn => ?_⟩⟩
  ·by_cases e : q = p
   ·subst e
    rw [hget] at hd'; cases hd'
    simp only [hdst, Hs]
    rw [List.getElem?_set_self (by omega)]
   ·have h3 := (h2 i hi).1 q d (by omega) hd' hdst
    cases hx : es[p].op.dst with
    | none => exact h3
    | some x =>
     simp only [Hs]
     by_cases hxi : x = i
     ·subst hxi
      exact absurd (hd q p d es[p] x hd' hget hdst hx) e
     ·rw [List.getElem?_set_ne hxi]; exact h3
  ·have h3 := (h2 i hi).2 (fun q d hq => hn q d (by omega))
   have h4 := hn p _ (by omega) hget
   cases hx : es[p].op.dst with
   | none => exact h3
   | some x =>
    simp only [Hs]
    by_cases hxi : x = i
    ·subst hxi; exact absurd hx h4
    ·rw [List.getElem?_set_ne hxi]; exact h3
theorem Ry : ∀ (n : Nat) (l : List Nat), l.Nodup → (∀ i ∈ l, i < n) → l.length ≤ n
 | 0, l, _, h => by
  cases l with
  | nil => simp
  | cons x l => exact absurd (h x (by simp)) (by omega)
 | n + 1, l, hn, h => by
  have := Ry n (l.erase n) (hn.erase n) (fun i hi => by
   have := (hn.mem_erase_iff).1 hi
   have := h i this.2
   omega)
  by_cases hm : n ∈ l
  ·rw [List.length_erase_of_mem hm] at this; omega
  ·rw [List.erase_of_not_mem hm] at this; omega
section
variable {P : Program} {call : CallF} {ops : Array Oper} {es : List DOp} {T : Nat → List LV} {S : Nat → List LObj} {V : Nat → LV} {G0 : Gh} {w0 : World}
abbrev LL (L : Array Bool) (i : Nat) : Prop := L.getD i false = true
structure Inv (ops : Array Oper) (es : List DOp) (T : Nat → List LV) (S : Nat → List LObj) (V : Nat → LV) (G0 : Gh) (w0 : World) (L : Array Bool) (a : Act) (w : World) (m : Nat) (G : Gh) : Prop where
 sz : L.size = ops.size
 dn : ∀ i, LL L i → ∀ o, ops[i]? = some o → ∀ e ∈ o.after, Region.binds .any e = true → LL L e.on
 mle : m ≤ es.length
 below : ∀ (p : Nat) d, p < m → es[p]? = some d → d.cls = .c → LL L d.idx
 at_ : ∀ d, es[m]? = some d → d.cls = .c ∧ ¬ LL L d.idx
 wr : WR G (S m) w
 ext : Ext0 G0 (S 0) w0 G (S m) w
 pend : ∀ (p : Nat) d x, p < m → es[p]? = some d → d.cls = .a → ¬ LL L d.idx → S (p + 1) = S p ++ [x] → (S m)[(S p).length]? = some x ∧ G.loc (S p).length = none ∧ ∀ f, G.hist (S p).length f = none
 tsz : a.tmps.size = (T 0).length
 tm1 : ∀ i, i < (T 0).length → ∀ (p : Nat) (d : DOp), es[p]? = some d → LL L d.idx → d.op.dst = some i → VL G (V p) (a.tmps.getD i undef)
 tm2 : ∀ i, i < (T 0).length → (∀ (p : Nat) (d : DOp), es[p]? = some d → LL L d.idx → d.op.dst ≠ some i) → VL G ((T 0).getD i .und) (a.tmps.getD i undef)
theorem E2 {r : Bool} {o : Oper} {lo : D4} (h : Ft P r ops o = some lo) : lo.dst = o.dst ∧ Gk ops o = some lo.guard ∧ K1 P r o.op = some lo.op := by
 unfold Ft at h
 split at h
 ·cases h; exact ⟨rfl, ‹_›, ‹_›⟩
 ·cases h
theorem Inv.reads (hs : Rx P ops es) (tr : Trace call es T S V) {L : Array Bool} {a : Act} {w : World} {m : Nat} {G : Gh} (h : Inv ops es T S V G0 w0 L a w m G)
  {p : Nat} {d : DOp} {o : Oper} (hp : es[p]? = some d) (ho : ops[d.idx]? = some o) (hn : ¬ LL L d.idx) (hr : ∀ e ∈ o.after, Region.binds .any e = true → LL L e.on) {i : Nat} (hi : i ∈ o.looksAt ops) :
  VL G ((T p).getD i .und) (a.tmps.getD i undef) := by
 have hlt : p < es.length := (List.getElem?_eq_some_iff.1 hp).1
 obtain ⟨t1, t2⟩ := tr.tmps hs.dsts p (by omega)
 by_cases hil : i < (T 0).length
 ·by_cases hw : ∃ (q : Nat) (e : DOp), q < p ∧ es[q]? = some e ∧ e.op.dst = some i
  ·obtain ⟨q, e, hqp, hq, hdst⟩ := hw
   obtain ⟨o', r', ho', hc', _⟩ := hs.get q e hq
   have hdep := hs.ord q p e d o' o hqp hq hp ho' ho (.inr (.inl ⟨i, by rw [← (E2 hc').1]; exact hdst, hi⟩))
   have hl := hdep.done h.dn (fun o2 ho2 => by rw [ho] at ho2; cases ho2; exact hr)
   have := h.tm1 i hil q e hq hl hdst
   have e2 := ((t2 i hil).1 q e hqp hq hdst)
   rw [List.getD_eq_getElem?_getD, e2]
   exact this
  ·have e2 := (t2 i hil).2 (fun q e hq he hx => hw ⟨q, e, hq, he, hx⟩)
   rw [List.getD_eq_getElem?_getD, e2, ← List.getD_eq_getElem?_getD]
   refine h.tm2 i hil (fun q e hq hl hdst => ?_)
   rcases Nat.lt_trichotomy q p with hqp | rfl | hqp
   ·exact hw ⟨q, e, hqp, hq, hdst⟩
   ·rw [hp] at hq; cases hq; exact hn hl
   ·obtain ⟨o', r', ho', hc', _⟩ := hs.get q e hq
    have hdep := hs.ord p q d e o o' hqp hp hq ho ho' (.inr (.inr ⟨i, by rw [← (E2 hc').1]; exact hdst, hi⟩))
    exact hn (hdep.done h.dn (fun o2 ho2 => h.dn _ hl o2 ho2))
 ·rw [List.getD_eq_getElem?_getD, List.getElem?_eq_none (by omega)]
  exact .und _
theorem Wj (tr : Trace call es T S V) (hmk : ∀ (p : Nat) (d : DOp), es[p]? = some d → d.cls = .a → S (p + 1) = S p ∨ ∃ x, S (p + 1) = S p ++ [x]) {L : Array Bool} {w : World} {G : Gh} :
  ∀ (k m : Nat), es.length - m = k → m ≤ es.length → WR G (S m) w → Ext0 G0 (S 0) w0 G (S m) w →
   (∀ (p : Nat) d x, p < m → es[p]? = some d → d.cls = .a → ¬ LL L d.idx → S (p + 1) = S p ++ [x] → (S m)[(S p).length]? = some x ∧ G.loc (S p).length = none ∧ ∀ f, G.hist (S p).length f = none) →
   ∃ m', m ≤ m' ∧ m' ≤ es.length ∧ (∀ (q : Nat) e, m ≤ q → q < m' → es[q]? = some e → e.cls ≠ .c) ∧ (∀ e, es[m']? = some e → e.cls = .c) ∧ WR G (S m') w ∧ Ext0 G0 (S 0) w0 G (S m') w ∧
    (∀ (p : Nat) d x, p < m' → es[p]? = some d → d.cls = .a → ¬ LL L d.idx → S (p + 1) = S p ++ [x] → (S m')[(S p).length]? = some x ∧ G.loc (S p).length = none ∧ ∀ f, G.hist (S p).length f = none) := by
 intro k
 induction k with
 | zero =>
  intro m hk hm h hx hp
  exact ⟨m, Nat.le_refl _, hm, fun q e h1 h2 => by omega, fun e he => by have := (List.getElem?_eq_some_iff.1 he).1; omega, h, hx, hp⟩
 | succ k ih =>
  intro m hk hm h hx hp
  have hlt : m < es.length := by omega
  have hget : es[m]? = some es[m] := by simp [hlt]
  by_cases hc : es[m].cls = .c
  ·exact ⟨m, Nat.le_refl _, hm, fun q e h1 h2 => by omega, fun e he => by rw [hget] at he; cases he; exact hc, h, hx, hp⟩
  ·have step : (S (m + 1) = S m ∨ ∃ x, es[m].cls = .a ∧ S (m + 1) = S m ++ [x]) := by
    cases hcl : es[m].cls with
    | h => exact .inl (G7 (tr.pure m _ hget hcl) (tr.run m _ hget).1)
    | a =>
     rcases hmk m _ hget hcl with e | ⟨x, e⟩
     ·exact .inl e
     ·exact .inr ⟨x, rfl, e⟩
    | c => exact absurd hcl hc
   have close : WR G (S (m + 1)) w → Ext0 G0 (S 0) w0 G (S (m + 1)) w → (∀ (p : Nat) d x, p < m + 1 → es[p]? = some d → d.cls = .a → ¬ LL L d.idx → S (p + 1) = S p ++ [x] → (S (m + 1))[(S p).length]? = some x ∧ G.loc (S p).length = none ∧ ∀ f, G.hist (S p).length f = none) →
     ∃ m', m ≤ m' ∧ m' ≤ es.length ∧ (∀ (q : Nat) e, m ≤ q → q < m' → es[q]? = some e → e.cls ≠ .c) ∧ (∀ e, es[m']? = some e → e.cls = .c) ∧ WR G (S m') w ∧ Ext0 G0 (S 0) w0 G (S m') w ∧
      (∀ (p : Nat) d x, p < m' → es[p]? = some d → d.cls = .a → ¬ LL L d.idx → S (p + 1) = S p ++ [x] → (S m')[(S p).length]? = some x ∧ G.loc (S p).length = none ∧ ∀ f, G.hist (S p).length f = none) := by
    intro h1 h2 h3
    obtain ⟨m', a1, a2, a3, a4, a5, a6, a7⟩ := ih (m + 1) (by omega) hlt h1 h2 h3
    refine ⟨m', by omega, a2, fun q e b1 b2 he => ?_, a4, a5, a6, a7⟩
    by_cases e' : q = m
    ·subst e'; rw [hget] at he; cases he; exact hc
    ·exact a3 q e (by omega) b2 he
   rcases step with e | ⟨x, hca, e⟩
   ·refine close (e ▸ h) (e ▸ hx) (fun p d x hpm hd hcl hnl hS => ?_)
    rw [e]
    by_cases hpe : p = m
    ·subst hpe
     rw [e] at hS
     have := congrArg List.length hS
     simp at this
    ·exact hp p d x (by omega) hd hcl hnl hS
   ·refine close (e ▸ h.snoc x) (e ▸ hx.trans (Ext0.snoc h x)) (fun p d y hpm hd hcl hnl hS => ?_)
    rw [e]
    by_cases hpe : p = m
    ·subst hpe
     rw [e] at hS
     have := List.append_cancel_left hS
     cases this
     exact ⟨D6, h.dom _ (Nat.le_refl _)⟩
    ·obtain ⟨b1, b2⟩ := hp p d y (by omega) hd hcl hnl hS
     exact ⟨by rw [C5 (List.getElem?_eq_some_iff.1 b1).1]; exact b1, b2⟩
end
end Go.LS
set_option linter.unusedVariables false
set_option linter.unusedSimpArgs false
namespace Go.LS
section
variable {P : Program} {call : CallF} {ops : Array Oper} {es : List DOp} {T : Nat → List LV} {S : Nat → List LObj} {V : Nat → LV} {G0 : Gh} {w0 : World}
theorem G8 {L : Array Bool} {i j : Nat} (hi : i < L.size) : LL (L.setIfInBounds i true) j ↔ j = i ∨ LL L j := by
 unfold LL
 by_cases e : i = j
 ·subst e; simp [hi]
 ·rw [getD_set_ne false e]
  exact ⟨.inr, fun h => h.resolve_left (Ne.symm e)⟩
theorem Inv.next (hs : Rx P ops es) {L : Array Bool} {a : Act} {w : World} {m : Nat} {G : Gh} (h : Inv ops es T S V G0 w0 L a w m G)
  {p : Nat} {d : DOp} {o : Oper} (hp : es[p]? = some d) (ho : ops[d.idx]? = some o) (hdst : d.op.dst = o.dst) (hn : ¬ LL L d.idx) (hr : ∀ e ∈ o.after, Region.binds .any e = true → LL L e.on)
  {u : Value} {w' : World} {G' : Gh} {m' : Nat} (hle : G.le G') (hv : VL G' (V p) u) (mle : m' ≤ es.length)
  (hb : ∀ (q : Nat) e, q < m' → es[q]? = some e → e.cls = .c → LL L e.idx ∨ e.idx = d.idx) (ha : ∀ e, es[m']? = some e → e.cls = .c ∧ ¬ LL L e.idx ∧ e.idx ≠ d.idx)
  (hwr : WR G' (S m') w') (hx : Ext0 G0 (S 0) w0 G' (S m') w')
  (hpd : ∀ (q : Nat) e x, q < m' → es[q]? = some e → e.cls = .a → ¬ LL L e.idx → e.idx ≠ d.idx → S (q + 1) = S q ++ [x] → (S m')[(S q).length]? = some x ∧ G'.loc (S q).length = none ∧ ∀ f, G'.hist (S q).length f = none) :
  Inv ops es T S V G0 w0 (L.setIfInBounds d.idx true) (a.put o.dst u) w' m' G' := by
 have hi : d.idx < L.size := by rw [h.sz]; exact (Array.getElem?_eq_some_iff.1 ho).1
 refine ⟨by simp [h.sz], ?_, mle, ?_, ?_, hwr, hx, ?_, ?_, ?_, ?_⟩
 ·intro i hl o' ho' e he hbd
  rw [G8 hi] at hl ⊢
  rcases hl with rfl | hl
  ·rw [ho] at ho'; cases ho'; exact .inr (hr e he hbd)
  ·exact .inr (h.dn i hl o' ho' e he hbd)
 ·intro q e hq he hc
  rw [G8 hi]
  exact (hb q e hq he hc).symm
 ·intro e he
  obtain ⟨a1, a2, a3⟩ := ha e he
  refine ⟨a1, fun hl => ?_⟩
  rw [G8 hi] at hl
  rcases hl with hl | hl
  ·exact a3 hl
  ·exact a2 hl
 ·intro q e x hq he hc hl hS
  rw [G8 hi] at hl
  exact hpd q e x hq he hc (fun k => hl (.inr k)) (fun k => hl (.inl k)) hS
 ·cases o.dst <;> simp [Act.put, h.tsz]
 ·intro i hil q e he hl hde
  rw [G8 hi] at hl
  by_cases e0 : e.idx = d.idx
  ·obtain rfl := hs.inj q p e d he hp e0
   rw [hp] at he; cases he
   rw [hdst] at hde
   rw [hde]
   simp only [Act.put]
   rw [Array.getD_eq_getD_getElem?, Array.getElem?_setIfInBounds_self_of_lt (by rw [h.tsz]; exact hil)]
   exact hv
  ·have h1 := (h.tm1 i hil q e he (hl.resolve_left e0) hde).mono hle
   cases hx : o.dst with
   | none => exact h1
   | some x =>
    simp only [Act.put]
    have hxi : x ≠ i := by
     rintro rfl
     obtain rfl := hs.dsts q p e d x he hp hde (by rw [hdst]; exact hx)
     rw [hp] at he; cases he; exact e0 rfl
    rw [Array.getD_eq_getD_getElem?, Array.getElem?_setIfInBounds_ne hxi, ← Array.getD_eq_getD_getElem?]
    exact h1
 ·intro i hil hno
  have h1 := (h.tm2 i hil (fun q e he hl => hno q e he (by rw [G8 hi]; exact .inr hl))).mono hle
  have h2 := hno p d hp (by rw [G8 hi]; exact .inl rfl)
  cases hx : o.dst with
  | none => exact h1
  | some x =>
   simp only [Act.put]
   have hxi : x ≠ i := by
    rintro rfl
    exact h2 (by rw [hdst]; exact hx)
   rw [Array.getD_eq_getD_getElem?, Array.getElem?_setIfInBounds_ne hxi, ← Array.getD_eq_getD_getElem?]
   exact h1
theorem Xy {st : List LObj} {x : LObj} (h : Na st (st ++ [x]) = true) : (∃ es, x = .row es) ∨ (∃ kv, x = .map kv) := by
 unfold Na at h
 rw [D6] at h
 cases x with
 | row es => exact .inl ⟨_, rfl⟩
 | map kv => exact .inr ⟨_, rfl⟩
 | _ => cases h
theorem Rz (hs : Rx P ops es) (tr : Trace call es T S V) : ∀ (p : Nat) (d : DOp), es[p]? = some d → d.cls = .a → S (p + 1) = S p ∨ ∃ x, S (p + 1) = S p ++ [x] := by
  intro p d hp hc
  obtain ⟨o, r, ho, hcm, hmk⟩ := hs.get p d hp
  have hrun := (tr.run p d hp).1
  unfold C1 at hrun
  split at hrun
  ·refine .inr ?_
   have := hmk hc
   revert hrun this
   generalize d.op.op = op
   intro hrun this
   cases op <;> simp only [LOp.makes, Bool.false_eq_true] at this <;> simp only [Ao] at hrun
   case mkrow r' size len z parts =>
    subst this
    split at hrun
    ·cases hrun
    ·split at hrun
     ·cases hrun
     ·simp only [if_true, Option.some.injEq, Prod.mk.injEq] at hrun; exact ⟨_, hrun.2.symm⟩
   all_goals
    repeat' split at hrun
    all_goals first | (simp only [Option.some.injEq, Prod.mk.injEq] at hrun; exact ⟨_, hrun.2.symm⟩) | cases hrun
  ·simp only [Option.some.injEq, Prod.mk.injEq] at hrun; exact .inl hrun.2.symm
  ·cases hrun
theorem Xz (hok : Ei P call) (hs : Rx P ops es) (tr : Trace call es T S V) {Q : Exit → Act → World → Prop} {df : List Deferred}
  (hQ : ∀ a' w' G', WR G' (S es.length) w' → TR G' (T es.length) a' → Ext0 G0 (S 0) w0 G' (S es.length) w' → a'.defers = df → Q .normal a' w') :
  ∀ (fuel : Nat) (L : Array Bool) (a : Act) (w : World) (m : Nat) (G : Gh) (done : List Nat), Inv ops es T S V G0 w0 L a w m G → done.Nodup → (∀ i ∈ done, i < ops.size ∧ LL L i) → done.length + fuel = ops.size →
   a.defers = df → wpAny P .any ops Q fuel L a w := by
 have fin : ∀ (L : Array Bool) (a : Act) (w : World) (m : Nat) (G : Gh), Inv ops es T S V G0 w0 L a w m G → (∀ i, i < ops.size → LL L i) → a.defers = df → Q .normal a w := by
  intro L a w m G h hall hdf
  have hm : m = es.length := by
   rcases Nat.lt_or_ge m es.length with hlt | hge
   ·have hget : es[m]? = some es[m] := by simp [hlt]
    obtain ⟨o, r, ho, _⟩ := hs.get m _ hget
    exact absurd (hall _ (Array.getElem?_eq_some_iff.1 ho).1) (h.at_ _ hget).2
   ·have := h.mle; omega
  subst hm
  obtain ⟨t1, t2⟩ := tr.tmps hs.dsts es.length (Nat.le_refl _)
  refine hQ a w G h.wr ⟨by rw [h.tsz, t1], fun i v hv => ?_⟩ h.ext hdf
  have hil : i < (T 0).length := by rw [← t1]; exact (List.getElem?_eq_some_iff.1 hv).1
  by_cases hw : ∃ (q : Nat) (e : DOp), es[q]? = some e ∧ e.op.dst = some i
  ·obtain ⟨q, e, he, hd⟩ := hw
   have hq := (List.getElem?_eq_some_iff.1 he).1
   rw [(t2 i hil).1 q e hq he hd] at hv
   cases hv
   obtain ⟨o, r, ho, _⟩ := hs.get q e he
   exact h.tm1 i hil q e he (hall _ (Array.getElem?_eq_some_iff.1 ho).1) hd
  ·rw [(t2 i hil).2 (fun q e _ he hd => hw ⟨q, e, he, hd⟩)] at hv
   have := h.tm2 i hil (fun q e he _ hd => hw ⟨q, e, he, hd⟩)
   rw [List.getD_eq_getElem?_getD, hv] at this
   exact this
 have hmk := Rz hs tr
 intro fuel
 induction fuel with
 | zero =>
  intro L a w m G done h hnd hdone hlen hdf
  have hall : ∀ i, i < ops.size → LL L i := by
   intro i hi
   by_cases hm : i ∈ done
   ·exact (hdone i hm).2
   ·have := Ry ops.size (i :: done) (List.nodup_cons.2 ⟨hm, hnd⟩) (fun j hj => by
     rcases List.mem_cons.1 hj with rfl | hj
     ·exact hi
     ·exact (hdone j hj).1)
    simp at this
    omega
  refine ⟨List.eq_nil_iff_forall_not_mem.2 fun j hj => ?_, fin L a w m G h hall hdf⟩
  obtain ⟨h0, o, ho, _⟩ := mem_ready.1 hj
  have hlt := (Array.getElem?_eq_some_iff.1 ho).1
  have h1 := hall j hlt
  rw [LL, Array.getD_eq_getD_getElem?, Array.getElem?_eq_getElem (by rw [h.sz]; exact hlt)] at h1
  rw [Array.getD_eq_getD_getElem?, Array.getElem?_eq_getElem (by rw [h.sz]; exact hlt)] at h0
  simp at h0 h1
  rw [h0] at h1; cases h1
 | succ fuel ih =>
  intro L a w m G done h hnd hdone hlen hdf
  have hnll : ∀ j, j < ops.size → (L.getD j true = false ↔ ¬ LL L j) := by
   intro j hj
   unfold LL
   rw [Array.getD_eq_getD_getElem?, Array.getD_eq_getD_getElem?, Array.getElem?_eq_getElem (by rw [h.sz]; exact hj)]
   simp
  refine ⟨fun hnil => fin L a w m G h (fun i hi => ?_) hdf, fun i hi => ?_⟩
  ·obtain ⟨p, d, hp, rfl⟩ := hs.all i hi
   have key : ∀ (p : Nat) (d : DOp), es[p]? = some d → LL L d.idx := by
    intro p
    induction p using Nat.strongRecOn with
    | _ p ihp =>
     intro d hp
     obtain ⟨o, r, ho, _⟩ := hs.get p d hp
     have hlt := (Array.getElem?_eq_some_iff.1 ho).1
     refine Classical.byContradiction fun hn => ?_
     have : d.idx ∈ Region.ready .any ops L := mem_ready.2 ⟨(hnll _ hlt).2 hn, o, ho, fun e he hb => by
      obtain ⟨q, d', hq, hd', e1⟩ := hs.topo p d o e hp ho he hb
      rw [← e1]; exact ihp q hq d' hd'⟩
     rw [hnil] at this
     cases this
   exact key p d hp
  ·obtain ⟨h0, o, ho, hr⟩ := mem_ready.1 hi
   have hlt := (Array.getElem?_eq_some_iff.1 ho).1
   obtain ⟨p, d, hp, rfl⟩ := hs.all i hlt
   have hn : ¬ LL L d.idx := (hnll _ hlt).1 h0
   obtain ⟨o', r, ho', hcm, hmk'⟩ := hs.get p d hp
   rw [ho] at ho'; cases ho'
   obtain ⟨hdst, hguard, hcop⟩ := E2 hcm
   have hplt : p < es.length := (List.getElem?_eq_some_iff.1 hp).1
   -- no later than the next one that all wait for
   have hpm : p ≤ m := by
    rcases Nat.lt_or_ge m p with hgt | hle
    ·exfalso
     have hget : es[m]? = some es[m] := by simp [show m < es.length by omega]
     obtain ⟨a1, a2⟩ := h.at_ _ hget
     obtain ⟨om, rm, hom, _⟩ := hs.get m _ hget
     exact a2 ((hs.ord m p _ d om o hgt hget hp hom ho (.inl a1)).done h.dn (fun o2 ho2 => by rw [ho] at ho2; cases ho2; exact hr))
    ·exact hle
   have hread : ∀ j, j ∈ o.looksAt ops → VL G ((T p).getD j .und) (a.tmps.getD j undef) := fun j hj => h.reads hs tr hp ho hn hr hj
   have hxs : XsR G (T p) a o.op := by
    intro x hx y hy
    cases x with
    | tmp j =>
     simp only [A3] at hy; cases hy
     exact hread j (List.mem_append_left _ (List.mem_filterMap.2 ⟨.tmp j, by simpa using hx, rfl⟩))
    | const v =>
     simp only [A3] at hy
     split at hy <;> cases hy
     exact Eu G ‹_›
    | func f =>
     simp only [A3] at hy; cases hy
     exact .fn _ #[] #[] rfl rfl (by simp) (by simp)
    | global g => simp [A3] at hy
   have hgd : ∀ b, gd (T p) d.op.guard = some b → Region.wanted o (yielded ops a.tmps) = b := by
    intro b hb
    refine O9 (G := G) (by rw [h.tsz, (tr.tmps hs.dsts p (by omega)).1]) hguard (fun j want x hg hx => ?_) hb
    exact hread x (List.mem_append_right _ (by simp [hg, hx]))
   have hnd' : (d.idx :: done).Nodup := List.nodup_cons.2 ⟨fun hm => hn (hdone _ hm).2, hnd⟩
   have hsz : d.idx < L.size := by rw [h.sz]; exact hlt
   -- on with the rest
   have go : ∀ u w' G' m', Inv ops es T S V G0 w0 (L.setIfInBounds d.idx true) (a.put o.dst u) w' m' G' → wpAny P .any ops Q fuel (L.setIfInBounds d.idx true) (a.put o.dst u) w' := by
    intro u w' G' m' hi'
    refine ih _ _ _ m' G' (d.idx :: done) hi' hnd' (fun j hj => ?_) (by simp; omega) (by cases o.dst <;> exact hdf)
    rcases List.mem_cons.1 hj with rfl | hj
    ·exact ⟨hlt, by rw [G8 hsz]; exact .inl rfl⟩
    ·exact ⟨(hdone j hj).1, by rw [G8 hsz]; exact .inr (hdone j hj).2⟩
   have hrun := (tr.run p d hp).1
   have hatc : ∀ e, es[m]? = some e → p < m → e.cls = .c ∧ ¬ LL L e.idx ∧ e.idx ≠ d.idx := fun e he hlt' =>
    ⟨(h.at_ e he).1, (h.at_ e he).2, fun hc => by have := hs.inj m p e d he hp hc; omega⟩
   unfold wpOp
   rw [ho]
   simp only
   rcases Nat.lt_or_ge p m with hpm' | hpm'
   ·cases hcl : d.cls with
    | c => exact absurd (h.below p d hpm' hp hcl) hn
    | h =>
     have hheld := tr.held p d hp hcl m hpm' h.mle (fun q e h1 h2 he hc hmem => hn ((hs.must q e _ he hmem).done h.dn (fun o2 ho2 => h.dn _ (h.below q e h2 he hc) o2 ho2)))
     unfold C1 at hheld
     split at hheld
     ·rename_i hg
      rw [if_pos (hgd _ hg)]
      refine .inl (Nt hok hcop hheld h.wr hxs _ _ ?_)
      rintro u w' ⟨G', g1, g2, g3⟩
      refine go u w' G' m (h.next hs hp ho hdst hn hr g3.le g2 h.mle (fun q e h1 h2 h3 => .inl (h.below q e h1 h2 h3)) (fun e he => hatc e he hpm') g1 (h.ext.trans g3.to0) ?_)
      intro q e x hq he hc hl hne hS
      obtain ⟨b1, b2, b3⟩ := h.pend q e x hq he hc hl hS
      obtain ⟨c1, c2, c3⟩ := g3.pend _ (List.getElem?_eq_some_iff.1 b1).1 b2 b3
      exact ⟨b1, c2, c3⟩
     ·rename_i hg
      have hw := hgd _ hg
      rw [if_neg (by rw [hw]; simp)]
      simp only [Option.some.injEq, Prod.mk.injEq] at hheld
      exact go undef w G m (h.next hs hp ho hdst hn hr (.refl G) (hheld.1 ▸ .unit G) h.mle (fun q e h1 h2 h3 => .inl (h.below q e h1 h2 h3)) (fun e he => hatc e he hpm') h.wr h.ext
       (fun q e x hq he hc hl hne hS => h.pend q e x hq he hc hl hS))
     ·cases hheld
    | a =>
     have hnew := tr.new p d hp hcl
     unfold C1 at hrun
     split at hrun
     ·rename_i hg
      rw [if_pos (hgd _ hg)]
      obtain ⟨x, hx, hms⟩ := Rv (w := w) (hmk' hcl) hcop hrun hxs
      rw [hx] at hnew
      obtain ⟨b1, b2, b3⟩ := h.pend p d x hpm' hp hcl hn hx
      refine .inl (hms (Xy hnew) _ _ ?_)
      rintro u w' ⟨l, ob, n1, rfl, n3⟩
      obtain ⟨r1, r2⟩ := h.wr.place b1 b2 b3 l ob n1
      refine go u _ _ m (h.next hs hp ho hdst hn hr r2.le n3 h.mle (fun q e h1 h2 h3 => .inl (h.below q e h1 h2 h3)) (fun e he => hatc e he hpm') r1 (h.ext.trans r2) ?_)
      intro q e y hq he hc hl hne hS
      obtain ⟨c1, c2, c3⟩ := h.pend q e y hq he hc hl hS
      refine ⟨c1, ?_, c3⟩
      have hqp : q ≠ p := by rintro rfl; rw [hp] at he; cases he; exact hne rfl
      have hlen : (S q).length ≠ (S p).length := by
       have hmono : ∀ j k, j ≤ k → k ≤ es.length → (S j).length ≤ (S k).length := by
        intro j k hjk hk
        induction hjk with
        | refl => exact Nat.le_refl _
        | @step k hjk ihk =>
         refine Nat.le_trans (ihk (by omega)) ?_
         have hget : es[k]? = some es[k] := by simp [show k < es.length by omega]
         cases hck : es[k].cls with
         | h => rw [G7 (tr.pure k _ hget hck) (tr.run k _ hget).1]; exact Nat.le_refl _
         | a => rcases hmk k _ hget hck with e | ⟨y, e⟩ <;> rw [e] <;> simp
         | c => exact tr.len k _ hget hck
       rcases Nat.lt_or_ge q p with hlt' | hge'
       ·have := hmono (q + 1) p (by omega) (by omega)
        rw [hS] at this; simp at this; omega
       ·have := hmono (p + 1) q (by omega) (by have := h.mle; omega)
        rw [hx] at this; simp at this; omega
      simp [Gh.addLoc, hlen, c2]
     ·rename_i hg
      have hw := hgd _ hg
      rw [if_neg (by rw [hw]; simp)]
      simp only [Option.some.injEq, Prod.mk.injEq] at hrun
      exact go undef w G m (h.next hs hp ho hdst hn hr (.refl G) (hrun.1 ▸ .unit G) h.mle (fun q e h1 h2 h3 => .inl (h.below q e h1 h2 h3)) (fun e he => hatc e he hpm') h.wr h.ext
       (fun q e x hq he hc hl hne hS => h.pend q e x hq he hc hl hS))
     ·cases hrun
   ·obtain rfl : p = m := by omega
    have hcl := (h.at_ d hp).1
    have rest : ∀ u w' G', WR G' (S (p + 1)) w' → VL G' (V p) u → Ext0 G (S p) w G' (S (p + 1)) w' → (∀ (q : Nat) e x, q < p → es[q]? = some e → e.cls = .a → ¬ LL L e.idx → S (q + 1) = S q ++ [x] → (S (p + 1))[(S q).length]? = some x ∧ G'.loc (S q).length = none ∧ ∀ f, G'.hist (S q).length f = none) →
      wpAny P .any ops Q fuel (L.setIfInBounds d.idx true) (a.put o.dst u) w' := by
     intro u w' G' g1 g2 g3 g4
     obtain ⟨m', a1, a2, a3, a4, a5, a6, a7⟩ := Wj (G0 := G0) (w0 := w0) (L := L) tr hmk (es.length - (p + 1)) (p + 1) rfl (by omega) g1 (h.ext.trans g3) (fun q e x hq he hc hl hS => by
      rcases Nat.lt_or_ge q p with hq' | hq'
      ·exact g4 q e x hq' he hc hl hS
      ·obtain rfl : q = p := by omega
       rw [hp] at he; cases he; rw [hcl] at hc; cases hc)
     refine go u w' G' m' (h.next hs hp ho hdst hn hr g3.le g2 a2 (fun q e hq he hc => ?_) (fun e he => ?_) a5 a6 (fun q e x hq he hc hl hne hS => a7 q e x hq he hc hl hS))
     ·rcases Nat.lt_trichotomy q p with hq' | rfl | hq'
      ·exact .inl (h.below q e hq' he hc)
      ·rw [hp] at he; cases he; exact .inr rfl
      ·exact absurd hc (a3 q e hq' hq he)
     ·refine ⟨a4 e he, fun hl => ?_, fun hc => by have := hs.inj m' p e d he hp hc; omega⟩
      obtain ⟨oe, re, hoe, _⟩ := hs.get m' e he
      exact hn ((hs.ord p m' d e o oe (by omega) hp he ho hoe (.inl hcl)).done h.dn (fun o2 ho2 => h.dn _ hl o2 ho2))
    unfold C1 at hrun
    split at hrun
    ·rename_i hg
     rw [if_pos (hgd _ hg)]
     refine .inl (Nt hok hcop hrun h.wr hxs _ _ ?_)
     rintro u w' ⟨G', g1, g2, g3⟩
     refine rest u w' G' g1 g2 g3.to0 (fun q e x hq he hc hl hS => ?_)
     obtain ⟨b1, b2, b3⟩ := h.pend q e x hq he hc hl hS
     obtain ⟨c1, c2, c3⟩ := g3.pend _ (List.getElem?_eq_some_iff.1 b1).1 b2 b3
     exact ⟨by rw [c1]; exact b1, c2, c3⟩
    ·rename_i hg
     have hw := hgd _ hg
     rw [if_neg (by rw [hw]; simp)]
     simp only [Option.some.injEq, Prod.mk.injEq] at hrun
     obtain ⟨e1, e2⟩ := hrun
     exact rest undef w G (e2 ▸ h.wr) (e1 ▸ .unit G) (e2 ▸ (Ext.refl ..).to0) (fun q e x hq he hc hl hS => e2 ▸ h.pend q e x hq he hc hl hS)
    ·cases hrun
end
end Go.LS
set_option linter.unusedVariables false
set_option linter.unusedSimpArgs false
namespace Go.LS
def Zz {α : Type} (n : Nat) (f : Nat → α) : α :=
 match n with
 | 0 => f 0
 | k + 1 => f (k + 1)
theorem Z0 {α : Type} (n : Nat) (f : Nat → α) : Zz n f = f n := by cases n <;> rfl
def H0 (acc : List Nat) : List Edge → Nat → Nat
 | [], m => m
 | e :: r, m => if Region.binds .any e then H0 acc r (m ||| 2 ^ e.on ||| acc.getD e.on 0) else H0 acc r m
def L6 : List Oper → List Nat → List Nat
 | [], acc => acc
 | o :: r, acc => Zz (H0 acc o.after.toList 0) fun m => L6 r (acc ++ [m])
theorem Fu {ops : Array Oper} {acc : List Nat} (hacc : ∀ j i, (acc.getD j 0).testBit i = true → Dep ops j i) {j : Nat} {o : Oper} (ho : ops[j]? = some o) :
  ∀ (l : List Edge) (m : Nat), (∀ e ∈ l, e ∈ o.after) → (∀ i, m.testBit i = true → Dep ops j i) → ∀ i, (H0 acc l m).testBit i = true → Dep ops j i
 | [], m, _, hm, i, h => hm i h
 | e :: r, m, hl, hm, i, h => by
  simp only [H0] at h
  split at h
  ·rename_i hb
   refine Fu hacc ho r _ (fun x hx => hl x (by simp [hx])) (fun i hi => ?_) i h
   simp only [Nat.testBit_or, Bool.or_eq_true] at hi
   rcases hi with (hi | hi) | hi
   ·exact hm i hi
   ·rw [Nat.testBit_two_pow] at hi
    have := of_decide_eq_true hi
    subst this
    exact .one ho (hl e (by simp)) hb
   ·exact .more ho (hl e (by simp)) hb (hacc _ _ hi)
  ·exact Fu hacc ho r _ (fun x hx => hl x (by simp [hx])) hm i h
theorem L7 {ops : Array Oper} : ∀ (l pre : List Oper) (acc : List Nat), ops.toList = pre ++ l → acc.length = pre.length → (∀ j i, (acc.getD j 0).testBit i = true → Dep ops j i) →
  ∀ j i, ((L6 l acc).getD j 0).testBit i = true → Dep ops j i
 | [], pre, acc, _, _, h => h
 | o :: r, pre, acc, he, hlen, h => by
  simp only [L6, Z0]
  refine L7 r (pre ++ [o]) _ (by simp [he]) (by simp [hlen]) ?_
  have ho : ops[pre.length]? = some o := by
   rw [← Array.getElem?_toList, he]
   simp
  intro j i hj
  rcases Nat.lt_trichotomy j acc.length with hlt | rfl | hgt
  ·rw [List.getD_eq_getElem?_getD, List.getElem?_append_left hlt, ← List.getD_eq_getElem?_getD] at hj
   exact h j i hj
  ·rw [List.getD_eq_getElem?_getD, D6] at hj
   rw [hlen]
   exact Fu h ho _ 0 (by simp) (fun i hi => by simp at hi) i hj
  ·rw [List.getD_eq_getElem?_getD, List.getElem?_eq_none (by simp; omega)] at hj
   simp at hj
def clsOf (o : LOp) : Cls :=
 if o.makes then .a else
 match o with
 | .mkrow _ _ _ _ _ => .h
 | o => if Hg o .und then .h else .c
def readyB (direct : Nat) (done : Nat) : Bool := (direct &&& done) == direct
def Kg (dir : List Nat) (cls : List Cls) (done : Nat) : List Nat → Option Nat → Option Nat
 | [], found => found
 | i :: r, found =>
  if done.testBit i then Kg dir cls done r found
  else if readyB (dir.getD i 0) done then
   match cls.getD i .c with
   | .c => Kg dir cls done r (match found with | some x => some x | none => some i)
   | _ => some i
  else Kg dir cls done r found
def Wk (dir : List Nat) (cls : List Cls) (n : Nat) : Nat → Nat → List Nat
 | 0, _ => []
 | k + 1, done => match Kg dir cls done (List.range n) none with
  | some i => Zz (done ||| 2 ^ i) fun done' => i :: Wk dir cls n k done'
  | none => []
def X0 (los : List D4) (cls : List Cls) (ms : List Nat) (order : List Nat) : List DOp :=
 order.map fun i => ⟨cls.getD i .c, i, match cls.getD i .c with | .c => (List.range los.length).filter fun j => (ms.getD i 0).testBit j && (match cls.getD j .c with | .h => true | _ => false) | _ => [], los.getD i default⟩
def confB (looks : List (List Nat)) (d e : DOp) : Bool :=
 (match d.op.dst with | some x => (looks.getD e.idx []).contains x | none => false) || (match e.op.dst with | some x => (looks.getD d.idx []).contains x | none => false)
def La (ms : List Nat) (looks : List (List Nat)) (d e : DOp) : Bool :=
 !(d.idx == e.idx) && (match d.op.dst, e.op.dst with | some x, some y => !(x == y) | _, _ => true) &&
 (!((match d.cls with | .c => true | _ => false) || confB looks d e) || (ms.getD e.idx 0).testBit d.idx)
def P9 (f : DOp → DOp → Bool) : List DOp → Bool
 | [] => true
 | d :: r => r.all (f d) && P9 f r
theorem Ny {f : DOp → DOp → Bool} : ∀ {es : List DOp}, P9 f es = true → ∀ (p q : Nat) (d e : DOp), p < q → es[p]? = some d → es[q]? = some e → f d e = true
 | [], _, p, q, d, e, _, hp, _ => by simp at hp
 | x :: r, h, p, q, d, e, hpq, hp, hq => by
  simp only [P9, Bool.and_eq_true] at h
  cases q with
  | zero => omega
  | succ q =>
   cases p with
   | zero => simp at hp; subst hp; exact List.all_eq_true.1 h.1 e (List.mem_of_getElem? (by simpa using hq))
   | succ p => exact Ny h.2 p q d e (by omega) (by simpa using hp) (by simpa using hq)
def Wl (ops : Array Oper) : List Nat → List DOp → Bool
 | _, [] => true
 | bef, d :: r => (match ops[d.idx]? with
  | some o => o.after.toList.all fun e => !Region.binds .any e || bef.contains e.on
  | none => false) && Wl ops (d.idx :: bef) r
theorem Pb {ops : Array Oper} : ∀ {es : List DOp} {bef : List Nat}, Wl ops bef es = true → ∀ (p : Nat) (d : DOp) (o : Oper) (e : Edge), es[p]? = some d → ops[d.idx]? = some o → e ∈ o.after → Region.binds .any e = true →
  e.on ∈ bef ∨ ∃ (q : Nat) (d' : DOp), q < p ∧ es[q]? = some d' ∧ d'.idx = e.on
 | [], bef, _, p, d, o, e, hp, _, _, _ => by simp at hp
 | x :: r, bef, h, p, d, o, e, hp, ho, he, hb => by
  simp only [Wl, Bool.and_eq_true] at h
  cases p with
  | zero =>
   simp at hp; subst hp
   have h1 := h.1
   rw [ho] at h1
   have := List.all_eq_true.1 h1 e (by simpa using he)
   simp [hb] at this
   exact .inl this
  | succ p =>
   rcases Pb h.2 p d o e (by simpa using hp) ho he hb with hm | ⟨q, d', hq, hd, hi⟩
   ·rcases List.mem_cons.1 hm with hm | hm
    ·exact .inr ⟨0, x, by omega, rfl, hm.symm⟩
    ·exact .inl hm
   ·exact .inr ⟨q + 1, d', by omega, by simpa using hd, hi⟩
def Uj (ops : Array Oper) (los : List D4) (ms : List Nat) (looks : List (List Nat)) (es : List DOp) : Bool :=
 ((List.range ops.size).all fun i => es.any fun d => d.idx == i) &&
 (es.all fun d => decide (d.idx < los.length) && (match d.cls with | .a => d.op.op.makes | _ => true) && d.must.all fun j => (ms.getD d.idx 0).testBit j) &&
 P9 (La ms looks) es && Wl ops [] es
theorem L8 {P : Program} {rs : Nat → Bool} {ops : Array Oper} : ∀ {l : List Oper} {k : Nat} {los : List D4}, Ej P rs ops k l = some los →
  los.length = l.length ∧ ∀ (i : Nat) lo, los[i]? = some lo → ∃ o, l[i]? = some o ∧ Ft P (rs (k + i)) ops o = some lo
 | [], k, los, h => by simp only [Ej] at h; cases h; simp
 | o :: l, k, los, h => by
  simp only [Ej] at h
  split at h
  ·rename_i x lr hx hlr
   cases h
   obtain ⟨h1, h2⟩ := L8 hlr
   refine ⟨by simp [h1], fun i lo hi => ?_⟩
   cases i with
   | zero => simp at hi; subst hi; exact ⟨o, rfl, hx⟩
   | succ i =>
    obtain ⟨o', a, b⟩ := h2 i lo (by simpa using hi)
    exact ⟨o', by simpa using a, by rw [← b]; congr 2; omega⟩
  ·cases h
theorem Qa {P : Program} {rs : Nat → Bool} {ops : Array Oper} {los : List D4} (hc : Ej P rs ops 0 ops.toList = some los) {cls : List Cls} {order : List Nat}
  (h : Uj ops los (L6 ops.toList []) (ops.toList.map fun o => o.looksAt ops) (X0 los cls (L6 ops.toList []) order) = true) :
  Rx P ops (X0 los cls (L6 ops.toList []) order) := by
 have hms := L7 (ops := ops) ops.toList [] [] rfl rfl (fun j i hj => by simp at hj)
 generalize hm : L6 ops.toList [] = ms at h hms ⊢
 generalize he : X0 los cls ms order = es at h ⊢
 unfold Uj at h
 simp only [Bool.and_eq_true] at h
 obtain ⟨⟨⟨h1, h2⟩, h3⟩, h4⟩ := h
 have hop : ∀ d ∈ es, d.op = los.getD d.idx default := by
  intro d hd
  rw [← he] at hd
  simp only [X0, List.mem_map] at hd
  obtain ⟨i, _, rfl⟩ := hd
  rfl
 have hall : ∀ (p : Nat) (d : DOp), es[p]? = some d → ∃ o, ops[d.idx]? = some o ∧ Ft P (rs d.idx) ops o = some d.op ∧ (d.cls = .a → d.op.op.makes = true) ∧ ∀ j ∈ d.must, Dep ops d.idx j := by
  intro p d hp
  have hmem := List.mem_of_getElem? hp
  have := List.all_eq_true.1 h2 d hmem
  simp only [Bool.and_eq_true, decide_eq_true_eq] at this
  obtain ⟨⟨b1, b2⟩, b3⟩ := this
  obtain ⟨o, c1, c2⟩ := (L8 hc).2 d.idx (los[d.idx]) (by simp [b1])
  refine ⟨o, by rw [← Array.getElem?_toList]; exact c1, ?_, fun hcl => by rw [hcl] at b2; exact b2, fun j hj => hms _ _ (List.all_eq_true.1 b3 j hj)⟩
  rw [hop d hmem, List.getD_eq_getElem?_getD, List.getElem?_eq_getElem b1]
  simpa using c2
 have hpair := Ny h3
 have hlooks : ∀ i o, ops[i]? = some o → (ops.toList.map fun o => o.looksAt ops).getD i [] = o.looksAt ops := by
  intro i o ho
  rw [List.getD_eq_getElem?_getD, List.getElem?_map, Array.getElem?_toList, ho]
  rfl
 refine ⟨fun p d hp => ?_, fun i hi => ?_, ?_, ?_, ?_, ?_, ?_⟩
 ·obtain ⟨o, a1, a2, a3, _⟩ := hall p d hp
  exact ⟨o, _, a1, a2, a3⟩
 ·have := List.all_eq_true.1 h1 i (List.mem_range.2 hi)
  obtain ⟨d, hd, hb⟩ := List.any_eq_true.1 this
  obtain ⟨p, hp⟩ := List.getElem?_of_mem hd
  exact ⟨p, d, hp, by simpa using hb⟩
 ·intro p q d e hp hq hi
  rcases Nat.lt_trichotomy p q with hlt | rfl | hgt
  ·have := hpair p q d e hlt hp hq
   simp [La, hi] at this
  ·rfl
  ·have := hpair q p e d hgt hq hp
   simp [La, hi] at this
 ·intro p q d e x hp hq hd' he'
  rcases Nat.lt_trichotomy p q with hlt | rfl | hgt
  ·have := hpair p q d e hlt hp hq
   simp [La, hd', he'] at this
  ·rfl
  ·have := hpair q p e d hgt hq hp
   simp [La, hd', he'] at this
 ·intro p q d e o o' hpq hp hq ho ho' hcc
  have := hpair p q d e hpq hp hq
  simp only [La, Bool.and_eq_true, Bool.or_eq_true, Bool.not_eq_true'] at this
  rcases this.2 with hf | hb
  ·exfalso
   simp only [Bool.or_eq_false_iff] at hf
   rcases hcc with hcl | hcf
   ·rw [hcl] at hf; exact absurd hf.1 (by simp)
   ·obtain ⟨o1, ho1, hc1, _⟩ := hall p d hp
    obtain ⟨o2, ho2, hc2, _⟩ := hall q e hq
    rw [ho] at ho1; cases ho1
    rw [ho'] at ho2; cases ho2
    have hf2 := hf.2
    simp only [confB, Bool.or_eq_false_iff, (E2 hc1).1, (E2 hc2).1, hlooks _ _ ho, hlooks _ _ ho'] at hf2
    rcases hcf with ⟨x, hx, hmem⟩ | ⟨x, hx, hmem⟩
    ·have := hf2.1; rw [hx] at this; simp at this; exact this hmem
    ·have := hf2.2; rw [hx] at this; simp at this; exact this hmem
  ·exact hms _ _ hb
 ·intro q e i hq hi
  obtain ⟨o, _, _, _, a4⟩ := hall q e hq
  exact a4 i hi
 ·intro p d o e hp ho he hb
  rcases Pb h4 p d o e hp ho he hb with hm | h
  ·cases hm
  ·exact h
def clsM (o : LOp) : Cls :=
 match o with
 | .mkslice _ _ _ (.const (.p (.int _ 0))) _ => .c
 | o => clsOf o
def Ha (P : Program) (rs : Nat → Bool) (ops : Array Oper) (cl : LOp → Cls) : Option (List DOp) :=
 match Ej P rs ops 0 ops.toList with
 | none => none
 | some los =>
  let ms := L6 ops.toList []
  let cls := los.map fun o => cl o.op
  let dir := ops.toList.map fun o => o.after.toList.foldl (fun m e => if Region.binds .any e then m ||| 2 ^ e.on else m) 0
  let es := X0 los cls ms (Wk dir cls los.length los.length 0)
  if Uj ops los ms (ops.toList.map fun o => o.looksAt ops) es then some es else none
def Lb (P : Program) (rs : Nat → Bool) (ops : Array Oper) : Option (List DOp) :=
 match Ha P rs ops clsM with
 | some es => some es
 | none => Ha P rs ops clsOf
theorem Gl {P : Program} (hm : P.follows .mixedOrders = true) {rs : Nat → Bool} {ops : Array Oper} {cl : LOp → Cls} {es : List DOp} (h : Ha P rs ops cl = some es) : Uf P ops es := by
 unfold Ha at h
 split at h
 ·cases h
 ·rename_i los hc
  simp only at h
  split at h
  ·rename_i hb
   cases h
   have hs := Qa hc hb
   generalize X0 los _ _ _ = es at hs ⊢
   intro call hok t st t' st' G w a Q id hr h ht hq
   obtain ⟨T, S, V, tr, e1, e2, e3, e4, _⟩ := Hz es [] t t' st st' hr (by simp)
   subst e1; subst e2; subst e3; subst e4
   refine wp_region_any hm ?_
   have h' : WR G (S 0) { w with drawn := w.drawn + 1 } := h.of_heap rfl
   have hx' : Ext0 G (S 0) w G (S 0) { w with drawn := w.drawn + 1 } := (Ext.of_heap (G := G) (st := S 0) (w := w) (w' := { w with drawn := w.drawn + 1 }) rfl rfl rfl rfl).to0
   have hmk : ∀ (p : Nat) (d : DOp), es[p]? = some d → d.cls = .a → S (p + 1) = S p ∨ ∃ x, S (p + 1) = S p ++ [x] := Rz hs tr
   obtain ⟨m, a1, a2, a3, a4, a5, a6, a7⟩ := Wj (G0 := G) (w0 := w) (L := Array.replicate ops.size false) tr hmk es.length 0 rfl (Nat.zero_le _) h' hx' (fun p d x hp => by omega)
   have hnl : ∀ i, ¬ LL (Array.replicate ops.size false) i := by
    intro i hi
    unfold LL at hi
    by_cases hlt : i < ops.size
    ·simp [hlt] at hi
    ·simp [hlt] at hi
   refine Xz (G0 := G) (w0 := w) hok hs tr (df := a.defers) (fun a' w' G' g1 g2 g3 g4 => hq a' w' G' g1 g2 g3 g4) ops.size _ a _ m G [] ⟨by simp, fun i hi => absurd hi (hnl i), a2, fun p d hp hd hc => absurd hc (a3 p d (by omega) hp hd), fun d hd => ⟨a4 d hd, hnl _⟩, a5, a6, a7, ht.1, fun i hi p d hp hl => absurd hl (hnl _), fun i hi _ => ht.get i⟩
    List.nodup_nil (by simp) (by simp) rfl
  ·cases h
theorem Mu {P : Program} (hm : P.follows .mixedOrders = true) {rs : Nat → Bool} {ops : Array Oper} {es : List DOp} (h : Lb P rs ops = some es) : Uf P ops es := by
 unfold Lb at h
 split at h
 ·rename_i es' he
  cases h
  exact Gl hm he
 ·exact Gl hm h
def autoR (P : Program) (ops : Array Oper) (i : Nat) : Bool :=
 match ops[i]? with
 | some o => (match o.op, o.dst with
  | .buildSlice _ _ _, some d => ops.toList.any fun q => (match q.op with
   | .convert src dst (.tmp x) => x == d && src == dst && (match P.underlying src with | some (.slice _) => true | _ => false)
   | _ => false)
  | _, _ => false)
 | none => false
def Cd (P : Program) (rs : Nat → Nat → Bool) : Code → Option B0
 | .skip => some .skip
 | .region id ops draw =>
  if draw then (match Lb P (fun i => rs id i || autoR P ops i) ops with | some es => some (.drawn es) | none => some .fail)
  else (match Ej P (fun i => rs id i || autoR P ops i) ops 0 ops.toList with | some l => some (.region l) | none => some .fail)
 | .seq a b => match Cd P rs a, Cd P rs b with
  | some x, some y => some (.seq x y)
  | _, _ => none
 | .cond c a b => match A3 c, Cd P rs a, Cd P rs b with
  | some z, some x, some y => some (.cond z x y)
  | _, _, _ => none
 | .block id c => match Cd P rs c with
  | some x => some (.block id [] x)
  | none => none
 | .loop c => match Cd P rs c with
  | some x => some (.loop [] x)
  | none => none
 | .exit id => some (.exit id [])
 | .ret => some (.ret [])
 | _ => some .fail
def Wm (P : Program) (rs : Nat → Nat → Bool) (r : Code) (x : Operand) : Bool :=
 match r, x with
 | .region _ ops false, .tmp t => ops.toList.any fun o => (o.dst == some t) && (match Bo P false o.op with | some (.nileq _ .slice _) => true | _ => false)
 | _, _ => false
def Z1 (P : Program) (rs : Nat → Nat → Bool) : Code → Option B0
 | .seq (.seq r (.cond x a b)) c => if Wm P rs r x then
   match A3 x, Cd P rs r, Cd P rs a, Cd P rs b, Cd P rs c with
   | some z, some lr, some la, some lb, some lc => some (.seq lr (.El z la lb lc))
   | _, _, _, _, _ => none
  else Cd P rs (.seq (.seq r (.cond x a b)) c)
 | .seq k (.seq (.seq r (.cond x a b)) c) => if Wm P rs r x then
   match A3 x, Cd P rs k, Cd P rs r, Cd P rs a, Cd P rs b, Cd P rs c with
   | some z, some lk, some lr, some la, some lb, some lc => some (.seq lk (.seq lr (.El z la lb lc)))
   | _, _, _, _, _, _ => none
  else Cd P rs (.seq k (.seq (.seq r (.cond x a b)) c))
 | c => Cd P rs c
theorem Br {P : Program} (hm : P.follows .mixedOrders = true) {rs : Nat → Nat → Bool} : ∀ {c : Code} {lc : B0}, Cd P rs c = some lc → CR P c lc
 | .skip, lc, h => by simp only [Cd] at h; cases h; exact .skip
 | .region id ops draw, lc, h => by
  simp only [Cd] at h
  split at h
  ·rename_i hd
   subst hd
   split at h <;> cases h
   ·exact .drawn id (Mu hm ‹_›)
   ·exact .fail _
  ·rename_i hd
   have : draw = false := by cases draw <;> simp_all
   subst this
   split at h <;> cases h
   ·exact .region id ‹_›
   ·exact .fail _
 | .seq a b, lc, h => by
  simp only [Cd] at h
  split at h <;> cases h
  exact .seq (Br hm ‹_›) (Br hm ‹_›)
 | .cond c a b, lc, h => by
  simp only [Cd] at h
  split at h <;> cases h
  exact .cond ‹_› (Br hm ‹_›) (Br hm ‹_›)
 | .block id c, lc, h => by
  simp only [Cd] at h
  split at h <;> cases h
  exact .block id _ (Br hm ‹_›)
 | .loop c, lc, h => by
  simp only [Cd] at h
  split at h <;> cases h
  exact .loop _ (Br hm ‹_›)
 | .exit id, lc, h => by simp only [Cd] at h; cases h; exact .exit id _
 | .ret, lc, h => by simp only [Cd] at h; cases h; exact .ret _
 | .rangeFunc .., lc, h => by simp only [Cd] at h; cases h; exact .fail _
 | .scope _, lc, h => by simp only [Cd] at h; cases h; exact .fail _
 | .label _, lc, h => by simp only [Cd] at h; cases h; exact .fail _
 | .goto _, lc, h => by simp only [Cd] at h; cases h; exact .fail _
 | .refuse _, lc, h => by simp only [Cd] at h; cases h; exact .fail _
theorem R0 {P : Program} (hm : P.follows .mixedOrders = true) {rs : Nat → Nat → Bool} {c : Code} {lc : B0} (h : Z1 P rs c = some lc) : CR P c lc := by
 unfold Z1 at h
 split at h
 ·split at h
  ·split at h
   ·cases h
    exact .El ‹_› (Br hm ‹_›) (Br hm ‹_›) (Br hm ‹_›) (Br hm ‹_›)
   ·cases h
  ·exact Br hm h
 ·split at h
  ·split at h
   ·cases h
    exact .seq (Br hm ‹_›) (.El ‹_› (Br hm ‹_›) (Br hm ‹_›) (Br hm ‹_›) (Br hm ‹_›))
   ·cases h
  ·exact Br hm h
 ·exact Br hm h
theorem CR.annot {P : Program} {c : Code} {lc : B0} (h : CR P c lc) (n : Nat) (ret : List Nat) : ∀ out env, CR P c (annot n ret lc out env) := by
 induction h with
 | skip => intro _ _; exact .skip
 | region id h => intro _ _; exact .region id h
 | drawn id h => intro _ _; exact .drawn id h
 | seq _ _ ih1 ih2 => intro _ _; exact .seq (ih1 _ _) (ih2 _ _)
 | cond hx _ _ ih1 ih2 => intro _ _; exact .cond hx (ih1 _ _) (ih2 _ _)
 | El hx _ _ _ _ ih0 ih1 ih2 ih3 => intro _ _; exact .El hx (ih0 _ _) (ih1 _ _) (ih2 _ _) (ih3 _ _)
 | block id mask _ ih => intro _ _; exact .block id _ (ih _ _)
 | loop mask _ ih => intro _ _; exact .loop _ (ih _ _)
 | exit id mask => intro _ _; exact .exit id _
 | ret mask => intro _ _; exact .ret _
 | fail c => intro _ _; exact .fail c
def LRes.tmp' : LRes → Nat
 | .tmp t => t
 | .cell t _ _ => t
def A1 (P : Program) (rs : Nat → Nat → Bool) (fn : Func) : Option LFn :=
 match fn.body with
 | none => none
 | some c => match Z1 P rs c, F6 P fn.results.toList with
  | some lc, some res => some ⟨fn.ntmps, res, annot fn.ntmps (res.map LRes.tmp') lc (res.map LRes.tmp') []⟩
  | _, _ => none
theorem Ar {P : Program} (hm : P.follows .mixedOrders = true) {rs : Nat → Nat → Bool} {f : FuncId} {fn : Func} {lf : LFn} (hf : P.funcs[f]? = some fn) (hpl : Fa P f = true) (h : A1 P rs fn = some lf) : FR P f lf := by
 unfold A1 at h
 split at h
 ·cases h
 ·rename_i c hc
  split at h
  ·rename_i lc res h1 h2
   cases h
   exact ⟨⟨fn, c, hf, hc, rfl, (R0 hm h1).annot _ _ _ _, h2⟩, hpl⟩
  ·cases h
end Go.LS
namespace Go.LS
def AllFR (P : Program) : Nat → List (Option LFn) → Prop
 | _, [] => True
 | k, none :: r => AllFR P (k + 1) r
 | k, some lf :: r => FR P k lf ∧ AllFR P (k + 1) r
theorem AllFR.get {P : Program} : ∀ {l : List (Option LFn)} {k : Nat}, AllFR P k l → ∀ (i : Nat) lf, l[i]? = some (some lf) → FR P (k + i) lf
 | [], k, _, i, lf, h => by simp at h
 | none :: r, k, h, i, lf, hi => by
  cases i with
  | zero => simp at hi
  | succ i => have := AllFR.get (l := r) (k := k + 1) h i lf (by simpa using hi); rwa [Nat.add_assoc, Nat.add_comm 1] at this
 | some x :: r, k, h, i, lf, hi => by
  cases i with
  | zero => simp at hi; subst hi; exact h.1
  | succ i => have := AllFR.get (l := r) (k := k + 1) h.2 i lf (by simpa using hi); rwa [Nat.add_assoc, Nat.add_comm 1] at this
end Go.LS

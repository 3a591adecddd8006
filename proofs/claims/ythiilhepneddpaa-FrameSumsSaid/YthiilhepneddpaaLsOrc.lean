/- Running with what is not known told from outside: each such word is owed. -/
import Derived.Test.YthiilhepneddpaaLsMono
set_option linter.unusedVariables false
set_option linter.unusedSimpArgs false
namespace Go.LS

inductive Orc where
  | b (c : Bool)
  | op (v : LV) (st : List LObj)
  | call (v : LV) (st : List LObj)
  | lp (out : LOut) (t : List LV) (st : List LObj)

abbrev Os := List (Nat × Orc)
def tick : Os → Option Orc × Os
  | (0, o) :: r => (some o, r)
  | (n + 1, o) :: r => (none, (n, o) :: r)
  | [] => (none, [])

def LX.inst (t : List LV) (x : LX) : LX := .const (x.ev t)
def noCall : CallF := fun _ _ _ => none

/-- The operation with its operands' values in their places. -/
def LOp.inst (t : List LV) : LOp → LOp
  | .mv x => .mv (x.inst t)
  | .pick c a b => .pick (c.inst t) (a.inst t) (b.inst t)
  | .alloc z => .alloc z
  | .box x => .box (x.inst t)
  | .build z ps => .build z (ps.map fun p => (p.1, p.2.1, p.2.2.inst t))
  | .mkrow r s l z ps => .mkrow r s l z (ps.map fun p => (p.1, p.2.inst t))
  | .load a n x => .load a n (x.inst t)
  | .store n x v => .store n (x.inst t) (v.inst t)
  | .nilChk x => .nilChk (x.inst t)
  | .bin o x y => .bin o (x.inst t) (y.inst t)
  | .beq o x y => .beq o (x.inst t) (y.inst t)
  | .peq o x y => .peq o (x.inst t) (y.inst t)
  | .nileq o k x => .nileq o k (x.inst t)
  | .un o x => .un o (x.inst t)
  | .cv k x => .cv k (x.inst t)
  | .fn f cs => .fn f (cs.map (LX.inst t))
  | .iface ty x => .iface ty (x.inst t)
  | .mkmap => .mkmap
  | .mkslice a b z l c => .mkslice a b z (l.inst t) (c.inst t)
  | .sslice x a b c => .sslice (x.inst t) (a.map (LX.inst t)) (b.map (LX.inst t)) (c.map (LX.inst t))
  | .slice n x a b c => .slice n (x.inst t) (a.map (LX.inst t)) (b.map (LX.inst t)) (c.map (LX.inst t))
  | .fieldAddr n x => .fieldAddr n (x.inst t)
  | .field g n m x => .field g n m (x.inst t)
  | .indexAddr n x i => .indexAddr n (x.inst t) (i.inst t)
  | .arrAddr n m x i => .arrAddr n m (x.inst t) (i.inst t)
  | .index x i => .index (x.inst t) (i.inst t)
  | .arrIndex g n m x i => .arrIndex g n m (x.inst t) (i.inst t)
  | .lookup k z o x i => .lookup k z o (x.inst t) (i.inst t)
  | .mapUpdate k a b c => .mapUpdate k (a.inst t) (b.inst t) (c.inst t)
  | .delete k a b => .delete k (a.inst t) (b.inst t)
  | .range x => .range (x.inst t)
  | .next x => .next (x.inst t)
  | .extract x i => .extract (x.inst t) i
  | .call f as => .call f (as.map (LX.inst t))
  | .callv f as => .callv (f.inst t) (as.map (LX.inst t))
  | .append s n m a b => .append s n m (a.inst t) (b.inst t)
  | .grow n m a b => .grow n m (a.inst t) (b.inst t)
  | .len x => .len (x.inst t)
  | .slen x => .slen (x.inst t)
  | .mlen x => .mlen (x.inst t)
  | .const v => .const v
  | .fail => .fail
  | .seq n l x y => .seq n l (x.inst t) (y.inst t)
  | .retire x => .retire (x.inst t)
  | .cap x => .cap (x.inst t)
  | .mx x y => .mx (x.inst t) (y.inst t)
  | .mn x y => .mn (x.inst t) (y.inst t)

theorem inst_ev (t s : List LV) (x : LX) : (x.inst t).ev s = x.ev t := rfl
theorem inst_evs (t s : List LV) (xs : List LX) : (xs.map (LX.inst t)).map (LX.ev s) = xs.map (LX.ev t) := by rw [List.map_map]; rfl
theorem inst_evo (t s : List LV) (xs : Option LX) : (xs.map (LX.inst t)).map (LX.ev s) = xs.map (LX.ev t) := by cases xs <;> rfl
theorem inst_parts (t s : List LV) : ∀ (ps : List (Nat × Nat × LX)), evParts s (ps.map fun p => (p.1, p.2.1, p.2.2.inst t)) = evParts t ps
  | [] => rfl
  | (a, b, x) :: r => by simp only [List.map_cons, evParts, inst_ev, inst_parts t s r]
theorem inst_row (t s : List LV) : ∀ (ps : List (Nat × LX)), evRow s (ps.map fun p => (p.1, p.2.inst t)) = evRow t ps
  | [] => rfl
  | (a, x) :: r => by simp only [List.map_cons, evRow, inst_ev, inst_row t s r]

theorem opStep_inst (call : CallF) (t s : List LV) (st : List LObj) (op : LOp) : opStep call s st (op.inst t) = opStep call t st op := by
  cases op <;> simp only [LOp.inst, opStep, inst_ev, inst_evs, inst_evo, inst_parts, inst_row]

/-- What is told of a step. -/
abbrev OpIs (t : List LV) (st : List LObj) (op : LOp) (v : LV) (st' : List LObj) : Prop := opStep noCall [] st (op.inst t) = some (v, st')

theorem noCall_le (c : CallF) : CallLe noCall c := fun f a s r h => by simp [noCall] at h

theorem OpIs.step {t : List LV} {st st' : List LObj} {op : LOp} {v : LV} (h : OpIs t st op v st') (c : CallF) : opStep c t st op = some (v, st') :=
  opStep_mono (noCall_le c) (by rw [← opStep_inst noCall t []]; exact h)

/-- A call, its result told in its own numbers. -/
def callO (lp : LProg) (f : FuncId) (args : List LV) (st : List LObj) (r : LV) (st1 : List LObj) : Option (LV × List LObj × Prop) :=
  let ids := reach st 100000 (args.flatMap LV.refs) []
  if closed st ids && (args.flatMap LV.refs).all (ids.contains ·) && decide ids.Nodup then
    if ids.length ≤ st1.length then
      let b := back ids st.length
      some (r.ren b, putBack st ids ((st1.take ids.length).map (LObj.ren b)) ++ (st1.drop ids.length).map (LObj.ren b),
        Runs lp f (args.map (LV.ren fun q => ids.idxOf q)) (sub st ids) (r, st1))
    else none
  else none

theorem callO_sound {lp : LProg} {f : FuncId} {args : List LV} {st st1 st' : List LObj} {r v : LV} {p : Prop} (h : callO lp f args st r st1 = some (v, st', p)) (hp : p) :
    ∃ n, ∀ m, n ≤ m → callIso (runF lp m) f args st = some (v, st') := by
  unfold callO at h
  simp only at h
  split at h
  · rename_i hc
    split at h
    · rename_i hl
      cases h
      obtain ⟨n, hn⟩ := Runs.at hp
      refine ⟨n, fun m hm => ?_⟩
      unfold callIso
      simp only
      rw [if_pos hc, hn m hm]
      simp only
      rw [if_pos hl]
    · cases h
  · cases h

def gdO (t : List LV) (g : Option (Nat × Bool)) (os : Os) : Option (Bool × List Prop × Os) :=
  match g with
  | none => some (true, [], os)
  | some (j, want) => match tick os with
    | (some (.b c), os') => some (c == want, [t.getD j .und = .p (.bool c)], os')
    | (none, os') => match gd t (some (j, want)) with
      | some b => some (b, [], os')
      | none => none
    | _ => none

abbrev AllP (ps : List Prop) : Prop := ∀ p ∈ ps, p

theorem gdO_sound {t : List LV} {g : Option (Nat × Bool)} {os os' : Os} {b : Bool} {ps : List Prop} (h : gdO t g os = some (b, ps, os')) (hp : AllP ps) : gd t g = some b := by
  unfold gdO at h
  split at h
  · cases h; rfl
  · split at h
    · cases h
      have := hp _ (List.mem_singleton.2 rfl)
      simp only [gd, this]
    · split at h
      · cases h; assumption
      · cases h
    · cases h

def stepO (lp : LProg) (t : List LV) (st : List LObj) (op : LOp) (os : Os) : Option (LV × List LObj × List Prop × Os) :=
  match tick os with
  | (none, os') => match opStep noCall t st op with
    | some (v, st') => some (v, st', [], os')
    | none => none
  | (some (.op v st'), os') => some (v, st', [OpIs t st op v st'], os')
  | (some (.call r st1), os') => match op with
    | .call f args => match callO lp f (args.map (LX.ev t)) st r st1 with
      | some (v, st', p) => some (v, st', [p], os')
      | none => none
    | .callv f args => match f.ev t with
      | .fn (.func g) first captured => match callO lp g (first ++ args.map (LX.ev t) ++ captured) st r st1 with
        | some (v, st', p) => some (v, st', [p], os')
        | none => none
      | _ => none
    | _ => none
  | (some (.b c), os') => match op with
    | .pick x a b => some (if c then a.ev t else b.ev t, st, [x.ev t = .p (.bool c)], os')
    | _ => none
  | _ => none

theorem stepO_sound {lp : LProg} {t : List LV} {st st' : List LObj} {op : LOp} {os os' : Os} {v : LV} {ps : List Prop} (h : stepO lp t st op os = some (v, st', ps, os')) (hp : AllP ps) :
    ∃ n, ∀ m, n ≤ m → opStep (runF lp m) t st op = some (v, st') := by
  unfold stepO at h
  split at h
  · split at h <;> cases h
    exact ⟨0, fun m _ => opStep_mono (noCall_le _) ‹_›⟩
  · cases h
    have := hp _ (List.mem_singleton.2 rfl)
    exact ⟨0, fun m _ => OpIs.step this _⟩
  · split at h
    · split at h <;> cases h
      exact callO_sound ‹_› (hp _ (List.mem_singleton.2 rfl))
    · split at h
      · rename_i hf
        split at h <;> cases h
        obtain ⟨n, hn⟩ := callO_sound ‹_› (hp _ (List.mem_singleton.2 rfl))
        exact ⟨n, fun m hm => by simp only [opStep, hf]; exact hn m hm⟩
      · cases h
    · cases h
  · split at h
    · cases h
      have := hp _ (List.mem_singleton.2 rfl)
      exact ⟨0, fun m _ => by simp only [opStep, this]⟩
    · cases h
  · cases h

def operO (lp : LProg) (t : List LV) (st : List LObj) (o : LOper) (os : Os) : Option (LV × List LObj × List Prop × Os × Bool) :=
  match gdO t o.guard os with
  | some (true, ps, os1) => match stepO lp t st o.op os1 with
    | some (v, st', qs, os2) => some (v, st', ps ++ qs, os2, true)
    | none => none
  | some (false, ps, os1) => some (.tup [], st, ps, os1, false)
  | none => none

theorem allP_append {ps qs : List Prop} (h : AllP (ps ++ qs)) : AllP ps ∧ AllP qs := ⟨fun p hp => h p (List.mem_append_left _ hp), fun p hp => h p (List.mem_append_right _ hp)⟩

theorem operO_sound {lp : LProg} {t : List LV} {st st' : List LObj} {o : LOper} {os os' : Os} {v : LV} {ps : List Prop} {d : Bool} (h : operO lp t st o os = some (v, st', ps, os', d)) (hp : AllP ps) :
    gd t o.guard = some d ∧ ∃ n, ∀ m, n ≤ m → runOp (runF lp m) t st o = some (v, st') := by
  unfold operO at h
  split at h
  · rename_i ps1 os1 hg
    split at h
    · rename_i v' st1 qs os2 hs
      cases h
      obtain ⟨h1, h2⟩ := allP_append hp
      obtain ⟨n, hn⟩ := stepO_sound hs h2
      have := gdO_sound hg h1
      exact ⟨this, n, fun m hm => by unfold runOp; rw [this]; exact hn m hm⟩
    · cases h
  · rename_i ps1 os1 hg
    cases h
    have := gdO_sound hg hp
    exact ⟨this, 0, fun m _ => by unfold runOp; rw [this]⟩
  · cases h

def opsO (lp : LProg) : List LOper → List LV → List LObj → Os → Option (List LV × List LObj × List Prop × Os)
  | [], t, st, os => some (t, st, [], os)
  | o :: r, t, st, os => match operO lp t st o os with
    | some (v, st', ps, os', _) => match opsO lp r (putT t o.dst v) st' os' with
      | some (t', st'', qs, os'') => some (t', st'', ps ++ qs, os'')
      | none => none
    | none => none

theorem opsO_sound {lp : LProg} : ∀ {l : List LOper} {t t' : List LV} {st st' : List LObj} {os os' : Os} {ps : List Prop}, opsO lp l t st os = some (t', st', ps, os') → AllP ps →
    ∃ n, ∀ m, n ≤ m → runOps (runF lp m) l t st = some (t', st')
  | [], t, t', st, st', os, os', ps, h, _ => by simp only [opsO] at h; cases h; exact ⟨0, fun m _ => rfl⟩
  | o :: r, t, t', st, st', os, os', ps, h, hp => by
    simp only [opsO] at h
    split at h
    · rename_i v st1 ps1 os1 d hs
      split at h
      · rename_i t2 st2 qs os2 hr
        cases h
        obtain ⟨h1, h2⟩ := allP_append hp
        obtain ⟨_, n, hn⟩ := operO_sound hs h1
        obtain ⟨k, hk⟩ := opsO_sound hr h2
        exact ⟨max n k, fun m hm => by simp only [runOps, hn m (by omega)]; exact hk m (by omega)⟩
      · cases h
    · cases h

/-- What is held of loads ahead of a step that writes. -/
def heldP (st : List LObj) (held : List (DOp × List LV × LV)) : List Prop := held.map fun x => OpIs x.2.1 st x.1.op.op x.2.2 st

theorem heldP_sound {lp : LProg} {m : Nat} {st : List LObj} {held : List (DOp × List LV × LV)} (h : AllP (heldP st held)) (hg : ∀ x ∈ held, gd x.2.1 x.1.op.guard = some true) : heldOk (runF lp m) st held = true := by
  unfold heldOk
  rw [List.all_eq_true]
  intro x hx
  have := h _ (List.mem_map.2 ⟨x, hx, rfl⟩)
  unfold runOp
  rw [hg x hx]
  simp only [OpIs.step this, LV.eqb_refl]

def drawnO (lp : LProg) : List DOp → List (DOp × List LV × LV) → List LV → List LObj → Os → Option (List LV × List LObj × List Prop × Os)
  | [], _, t, st, os => some (t, st, [], os)
  | d :: r, held, t, st, os => match operO lp t st d.op os with
    | none => none
    | some (v, st', ps, os', done) =>
      match d.cls with
      | .h => if pureV d.op.op v then
          match drawnO lp r (if statB t d.op.op || !done then held else (d, t, v) :: held) (putT t d.op.dst v) st' os' with
          | some (t', st'', qs, os'') => some (t', st'', ps ++ qs, os'')
          | none => none
        else none
      | .a => if newOk st st' then
          match drawnO lp r held (putT t d.op.dst v) st' os' with
          | some (t', st'', qs, os'') => some (t', st'', ps ++ heldP st' held ++ qs, os'')
          | none => none
        else none
      | .c => if decide (st.length ≤ st'.length) then
          match drawnO lp r (held.filter fun x => !d.must.contains x.1.idx) (putT t d.op.dst v) st' os' with
          | some (t', st'', qs, os'') => some (t', st'', ps ++ heldP st' (held.filter fun x => !d.must.contains x.1.idx) ++ qs, os'')
          | none => none
        else none

abbrev HeldSub (held heldO : List (DOp × List LV × LV)) : Prop := ∀ x ∈ held, x ∈ heldO ∨ (gd x.2.1 x.1.op.guard = some false ∧ x.2.2 = .tup [])

theorem heldSub_ok {lp : LProg} {m : Nat} {st : List LObj} {held heldO : List (DOp × List LV × LV)} (hs : HeldSub held heldO) (h : AllP (heldP st heldO)) (hg : ∀ x ∈ heldO, gd x.2.1 x.1.op.guard = some true) :
    heldOk (runF lp m) st held = true := by
  unfold heldOk
  rw [List.all_eq_true]
  intro x hx
  rcases hs x hx with hx | ⟨h1, h2⟩
  · have := List.all_eq_true.1 (heldP_sound (lp := lp) (m := m) h hg) x hx
    exact this
  · unfold runOp
    rw [h1, h2]
    rfl

theorem drawnO_sound {lp : LProg} : ∀ {l : List DOp} {heldO : List (DOp × List LV × LV)} {t t' : List LV} {st st' : List LObj} {os os' : Os} {ps : List Prop}, drawnO lp l heldO t st os = some (t', st', ps, os') → AllP ps →
    (∀ x ∈ heldO, gd x.2.1 x.1.op.guard = some true) → ∃ n, ∀ m, n ≤ m → ∀ held, HeldSub held heldO → runDrawn (runF lp m) l held t st = some (t', st')
  | [], heldO, t, t', st, st', os, os', ps, h, _, _ => by simp only [drawnO] at h; cases h; exact ⟨0, fun m _ held _ => rfl⟩
  | d :: r, heldO, t, t', st, st', os, os', ps, h, hp, hg => by
    simp only [drawnO] at h
    split at h
    · cases h
    · rename_i v st1 ps1 os1 done hs
      split at h
      · rename_i hc
        split at h
        · rename_i hpv
          split at h
          · rename_i t2 st2 qs os2 hr
            cases h
            obtain ⟨h1, h2⟩ := allP_append hp
            obtain ⟨hgd, n, hn⟩ := operO_sound hs h1
            obtain ⟨k, hk⟩ := drawnO_sound hr h2 (fun x hx => by
              split at hx
              · exact hg x hx
              · rename_i hst
                rcases List.mem_cons.1 hx with rfl | hx
                · have : done = true := by cases done <;> simp_all
                  rw [this] at hgd; exact hgd
                · exact hg x hx)
            refine ⟨max n k, fun m hm held hsub => ?_⟩
            simp only [runDrawn, hn m (by omega), hc]
            rw [if_pos hpv]
            refine hk m (by omega) _ (fun x hx => ?_)
            split at hx
            · rename_i hst
              rw [if_pos (by simp [hst])]
              exact hsub x hx
            · rename_i hst
              rcases List.mem_cons.1 hx with rfl | hx
              · cases hdn : done with
                | true => rw [if_neg (by simp [hst])]; exact .inl (by simp)
                | false =>
                  rw [hdn] at hgd
                  refine .inr ⟨hgd, ?_⟩
                  have := hn n (Nat.le_refl _)
                  unfold runOp at this
                  rw [hgd] at this
                  cases this; rfl
              · rcases hsub x hx with h | h
                · refine .inl ?_
                  split
                  · exact h
                  · exact List.mem_cons_of_mem _ h
                · exact .inr h
          · cases h
        · cases h
      · rename_i hc
        split at h
        · rename_i hnew
          split at h
          · rename_i t2 st2 qs os2 hr
            cases h
            obtain ⟨h12, h3⟩ := allP_append hp
            obtain ⟨h1, h2⟩ := allP_append h12
            obtain ⟨hgd, n, hn⟩ := operO_sound hs h1
            obtain ⟨k, hk⟩ := drawnO_sound hr h3 hg
            refine ⟨max n k, fun m hm held hsub => ?_⟩
            simp only [runDrawn, hn m (by omega), hc]
            rw [if_pos (by simp only [Bool.and_eq_true]; exact ⟨hnew, heldSub_ok hsub h2 hg⟩)]
            exact hk m (by omega) _ hsub
          · cases h
        · cases h
      · rename_i hc
        split at h
        · rename_i hlen
          split at h
          · rename_i t2 st2 qs os2 hr
            cases h
            obtain ⟨h12, h3⟩ := allP_append hp
            obtain ⟨h1, h2⟩ := allP_append h12
            obtain ⟨hgd, n, hn⟩ := operO_sound hs h1
            have hg' : ∀ x ∈ heldO.filter (fun x => !d.must.contains x.1.idx), gd x.2.1 x.1.op.guard = some true := fun x hx => hg x (List.mem_filter.1 hx).1
            obtain ⟨k, hk⟩ := drawnO_sound hr h3 hg'
            refine ⟨max n k, fun m hm held hsub => ?_⟩
            have hsub' : HeldSub (held.filter fun x => !d.must.contains x.1.idx) (heldO.filter fun x => !d.must.contains x.1.idx) := by
              intro x hx
              obtain ⟨a, b⟩ := List.mem_filter.1 hx
              rcases hsub x a with h | h
              · exact .inl (List.mem_filter.2 ⟨h, b⟩)
              · exact .inr h
            simp only [runDrawn, hn m (by omega), hc]
            rw [if_pos (by simp only [Bool.and_eq_true]; exact ⟨hlen, heldSub_ok hsub' h2 hg'⟩)]
            exact hk m (by omega) _ hsub'
          · cases h
        · cases h

/-- A loop from where its temporaries are ready. -/
def LoopAt (lp : LProg) (k : Nat) (mask : List Bool) (c : LCode) (t : List LV) (st : List LObj) (r : LOut × List LV × List LObj) : Prop :=
  ∃ n, (match exec (runF lp n) k n c t st with
    | some (.normal, t', st') => exec (runF lp n) k n (.loop mask c) t' st'
    | r => r) = some r

def execO (lp : LProg) (k : Nat) : Nat → LCode → List LV → List LObj → Os → Option (LOut × List LV × List LObj × List Prop × Os)
  | 0, _, _, _, _ => none
  | n + 1, c, t, st, os => match c with
    | .skip => some (.normal, t, st, [], os)
    | .region ops => match opsO lp ops t st os with
      | some (t', st', ps, os') => some (.normal, t', st', ps, os')
      | none => none
    | .drawn ops => match drawnO lp ops [] t st os with
      | some (t', st', ps, os') => some (.normal, t', st', ps, os')
      | none => none
    | .seq a b => match execO lp k n a t st os with
      | some (.normal, t', st', ps, os') => (match execO lp k n b t' st' os' with
        | some (o, t'', st'', qs, os'') => some (o, t'', st'', ps ++ qs, os'')
        | none => none)
      | r => r
    | .cond x a b => match tick os with
      | (some (.b c), os') => (match execO lp k n (if c then a else b) t st os' with
        | some (o, t', st', ps, os'') => some (o, t', st', (x.ev t = .p (.bool c)) :: ps, os'')
        | none => none)
      | (none, os') => (match x.ev t with
        | .p (.bool true) => execO lp k n a t st os'
        | .p (.bool false) => execO lp k n b t st os'
        | _ => none)
      | _ => none
    | .both x a b c => execO lp k n (.seq (.cond x a b) c) t st os
    | .block id mask c => match execO lp k n c t st os with
      | some (.exit i, t', st', ps, os') => if i = id then some (.normal, kill mask t', st', ps, os') else some (.exit i, t', st', ps, os')
      | some (.normal, t', st', ps, os') => some (.normal, kill mask t', st', ps, os')
      | r => r
    | .loop mask c => match tick os with
      | (some (.lp out t' st'), os') => (match gc k (kill mask t) st with
        | some (t0, st0) => some (out, t', st', [LoopAt lp k mask c t0 st0 (out, t', st')], os')
        | none => none)
      | _ => none
    | .exit id mask => some (.exit id, kill mask t, st, [], os)
    | .ret mask => some (.ret, kill mask t, st, [], os)
    | .fail => none

theorem exec_both {c : CallF} {k m : Nat} {x : LX} {a b d : LCode} {t : List LV} {st : List LObj} {r : LOut × List LV × List LObj} (h : exec c k m (.seq (.cond x a b) d) t st = some r) : exec c k (m + 1) (.both x a b d) t st = some r := by
  cases m with
  | zero => simp [exec] at h
  | succ m =>
    cases m with
    | zero => simp [exec, cont2] at h
    | succ m =>
      show (match x.ev t with
        | .p (.bool true) => cont2 (exec c k (m + 1 + 1) a t st) (exec c k (m + 1 + 1) d)
        | .p (.bool false) => cont2 (exec c k (m + 1 + 1) b t st) (exec c k (m + 1 + 1) d)
        | .anyb => both (cont2 (exec c k (m + 1 + 1) a t st) (exec c k (m + 1 + 1) d)) (cont2 (exec c k (m + 1 + 1) b t st) (exec c k (m + 1 + 1) d))
        | _ => none) = some r
      replace h : cont2 (match x.ev t with
        | .p (.bool true) => exec c k m a t st
        | .p (.bool false) => exec c k m b t st
        | .anyb => both (exec c k m a t st) (exec c k m b t st)
        | _ => none) (exec c k (m + 1) d) = some r := h
      have up : ∀ {lz : LCode} {y}, exec c k m lz t st = some y → cont2 (some y) (exec c k (m + 1) d) = some r → cont2 (exec c k (m + 1 + 1) lz t st) (exec c k (m + 1 + 1) d) = some r := by
        intro lz y h1 h2
        rw [exec_mono (fun _ _ _ _ h => h) (show m ≤ m + 1 + 1 by omega) h1]
        obtain ⟨o, t', st'⟩ := y
        cases o with
        | normal => exact exec_mono (fun _ _ _ _ h => h) (show m + 1 ≤ m + 1 + 1 by omega) h2
        | _ => exact h2
      split at h
      · rename_i hx
        cases he : exec c k m a t st with
        | none => rw [he] at h; cases h
        | some y => rw [he] at h; (try simp only [hx]); exact up he h
      · rename_i hx
        cases he : exec c k m b t st with
        | none => rw [he] at h; cases h
        | some y => rw [he] at h; (try simp only [hx]); exact up he h
      · rename_i hx
        cases hb : both (exec c k m a t st) (exec c k m b t st) with
        | none => rw [hb] at h; cases h
        | some y =>
          rw [hb] at h
          obtain ⟨e1, e2⟩ := both_eq hb
          try simp only [hx]
          rw [up e1 h, up e2 h]
          exact both_same r
      · cases h

theorem execO_sound {lp : LProg} {k : Nat} : ∀ {n : Nat} {c : LCode} {t t' : List LV} {st st' : List LObj} {os os' : Os} {ps : List Prop} {o : LOut}, execO lp k n c t st os = some (o, t', st', ps, os') → AllP ps →
    Exec lp k c t st (o, t', st')
  | 0, c, t, t', st, st', os, os', ps, o, h, _ => by simp [execO] at h
  | n + 1, c, t, t', st, st', os, os', ps, o, h, hp => by
    cases c with
    | skip => simp only [execO] at h; cases h; exact ⟨1, rfl⟩
    | exit id mask => simp only [execO] at h; cases h; exact ⟨1, rfl⟩
    | ret mask => simp only [execO] at h; cases h; exact ⟨1, rfl⟩
    | fail => simp [execO] at h
    | region ops =>
      simp only [execO] at h
      split at h
      · rename_i t1 st1 ps1 os1 hs
        cases h
        obtain ⟨m, hm⟩ := opsO_sound hs hp
        exact ⟨m + 1, by simp only [exec]; rw [hm (m + 1) (by omega)]⟩
      · cases h
    | drawn ops =>
      simp only [execO] at h
      split at h
      · rename_i t1 st1 ps1 os1 hs
        cases h
        obtain ⟨m, hm⟩ := drawnO_sound hs hp (by simp)
        exact ⟨m + 1, by simp only [exec]; rw [hm (m + 1) (by omega) [] (by simp)]⟩
      · cases h
    | seq a b =>
      simp only [execO] at h
      split at h
      · rename_i t1 st1 ps1 os1 hs
        split at h
        · rename_i o2 t2 st2 ps2 os2 hs2
          cases h
          obtain ⟨h1, h2⟩ := allP_append hp
          obtain ⟨m1, e1⟩ := (execO_sound hs h1).at
          obtain ⟨m2, e2⟩ := (execO_sound hs2 h2).at
          refine ⟨max m1 m2 + 1, ?_⟩
          simp only [exec, cont2]
          rw [exec_mono (runF_mono (by omega)) (Nat.le_refl _) (e1 (max m1 m2) (by omega))]
          exact exec_mono (runF_mono (by omega)) (Nat.le_refl _) (e2 (max m1 m2) (by omega))
        · cases h
      · rename_i r hne
        cases ha : execO lp k n a t st os with
        | none => rw [ha] at h; cases h
        | some x =>
          obtain ⟨o1, t1, st1, ps1, os1⟩ := x
          rw [ha] at h
          cases h
          obtain ⟨m, e⟩ := (execO_sound ha hp).at
          refine ⟨m + 1, ?_⟩
          simp only [exec, cont2]
          rw [exec_mono (runF_mono (by omega)) (Nat.le_refl _) (e m (Nat.le_refl _))]
          cases o with
          | normal => exact absurd ha (hne _ _ _ _)
          | _ => rfl
    | cond x a b =>
      simp only [execO] at h
      split at h
      · rename_i c os1 _
        split at h
        · rename_i o1 t1 st1 ps1 os2 hs
          cases h
          have hx := hp _ (List.mem_cons_self ..)
          obtain ⟨m, e⟩ := (execO_sound hs (fun p hm => hp p (List.mem_cons_of_mem _ hm))).at
          refine ⟨m + 1, ?_⟩
          simp only [exec, hx]
          have := exec_mono (runF_mono (lp := lp) (show m ≤ m + 1 by omega)) (Nat.le_refl _) (e m (Nat.le_refl _))
          cases c <;> exact this
        · cases h
      · split at h
        · rename_i hx
          obtain ⟨m, e⟩ := (execO_sound h hp).at
          refine ⟨m + 1, ?_⟩
          simp only [exec, hx]
          exact exec_mono (runF_mono (by omega)) (Nat.le_refl _) (e m (Nat.le_refl _))
        · rename_i hx
          obtain ⟨m, e⟩ := (execO_sound h hp).at
          refine ⟨m + 1, ?_⟩
          simp only [exec, hx]
          exact exec_mono (runF_mono (by omega)) (Nat.le_refl _) (e m (Nat.le_refl _))
        · cases h
      · cases h
    | both x a b d =>
      simp only [execO] at h
      obtain ⟨m, e⟩ := (execO_sound h hp).at
      exact ⟨m + 1, exec_mono (runF_mono (by omega)) (Nat.le_refl _) (exec_both (e m (Nat.le_refl _)))⟩
    | block id mask a =>
      simp only [execO] at h
      have go : ∀ {o1 t1 st1 ps1 os1}, execO lp k n a t st os = some (o1, t1, st1, ps1, os1) → AllP ps1 → ∃ m, exec (runF lp (m + 1)) k m a t st = some (o1, t1, st1) := by
        intro o1 t1 st1 ps1 os1 hs hp1
        obtain ⟨m, e⟩ := (execO_sound hs hp1).at
        exact ⟨m, exec_mono (runF_mono (by omega)) (Nat.le_refl _) (e m (Nat.le_refl _))⟩
      split at h
      · rename_i i t1 st1 ps1 os1 hs
        split at h
        · rename_i hi
          cases h
          obtain ⟨m, e⟩ := go hs hp
          exact ⟨m + 1, by simp only [exec, e]; rw [if_pos hi]⟩
        · rename_i hi
          cases h
          obtain ⟨m, e⟩ := go hs hp
          exact ⟨m + 1, by simp only [exec, e]; rw [if_neg hi]⟩
      · rename_i t1 st1 ps1 os1 hs
        cases h
        obtain ⟨m, e⟩ := go hs hp
        exact ⟨m + 1, by simp only [exec, e]⟩
      · rename_i r hne1 hne2
        cases ha : execO lp k n a t st os with
        | none => rw [ha] at h; cases h
        | some x =>
          obtain ⟨o1, t1, st1, ps1, os1⟩ := x
          rw [ha] at h
          cases h
          obtain ⟨m, e⟩ := go ha hp
          refine ⟨m + 1, ?_⟩
          simp only [exec, e]
          cases o with
          | normal => exact absurd ha (hne2 _ _ _ _)
          | exit i => exact absurd ha (hne1 _ _ _ _ _)
          | ret => rfl
    | loop mask a =>
      simp only [execO] at h
      split at h
      · rename_i out t1 st1 os1 _
        split at h
        · rename_i t0 st0 hg
          cases h
          obtain ⟨m, hm⟩ := hp _ (List.mem_singleton.2 rfl)
          refine ⟨m + 1, ?_⟩
          simp only [exec, hg]
          cases he : exec (runF lp m) k m a t0 st0 with
          | none => rw [he] at hm; cases hm
          | some x =>
            obtain ⟨o2, t2, st2⟩ := x
            rw [he] at hm
            rw [exec_mono (runF_mono (show m ≤ m + 1 by omega)) (Nat.le_refl _) he]
            cases o2 with
            | normal => exact exec_mono (runF_mono (by omega)) (Nat.le_refl _) hm
            | _ => exact hm
        · cases h
      · cases h

end Go.LS

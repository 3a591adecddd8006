/- A small semantics of loaded Go code that the kernel can run, part 6. -/
import Derived.Test.YtpkmddkodchanaaLsG1
import Derived.Test.YtpkmddkodchanaaLsG5
set_option linter.unusedVariables false
set_option linter.unusedSimpArgs false
namespace Go.LS
abbrev CallLe (c c' : CallF) : Prop := ∀ f a s r, c f a s = some r → c' f a s = some r ∧ c'.weak f = c.weak f
theorem callIso_mono {c c' : CallF} (h : CallLe c c') {f : FuncId} {args : List LV} {st : List LObj} {r : LV × List LObj} (hr : callIso c f args st = some r) : callIso c' f args st = some r := by
  unfold callIso at hr ⊢
  simp only at hr ⊢
  split at hr
  · rename_i hcl
    split at hr
    · rename_i v st' hc
      obtain ⟨h1, h2⟩ := h _ _ _ _ hc
      rw [h2, if_pos hcl, h1]
      exact hr
    · cases hr
  · cases hr
theorem callFz_mono {c c' : CallF} (h : CallLe c c') : CallLe (callFz c) (callFz c') := by
  intro f a s r hr
  unfold callFz at hr ⊢
  simp only at hr ⊢
  split at hr
  · rename_i v st' hc
    obtain ⟨h1, h2⟩ := h _ _ _ _ hc
    rw [h1]
    exact ⟨hr, h2⟩
  · cases hr
theorem opStep_mono {c c' : CallF} (h : CallLe c c') {t : List LV} {st : List LObj} {op : LOp} {r : LV × List LObj} (hr : opStep c t st op = some r) : opStep c' t st op = some r := by
  cases op
  case call f args => simp only [opStep] at hr ⊢; exact callIso_mono h hr
  case callz f args => simp only [opStep] at hr ⊢; exact callIso_mono (callFz_mono h) hr
  case callv f args =>
    simp only [opStep] at hr ⊢
    split at hr
    · exact callIso_mono h hr
    · cases hr
  all_goals exact hr
theorem runOp_mono {c c' : CallF} (h : CallLe c c') {t : List LV} {st : List LObj} {o : LOper} {r : LV × List LObj} (hr : runOp c t st o = some r) : runOp c' t st o = some r := by
  unfold runOp at hr ⊢
  split at hr
  · exact opStep_mono h hr
  · exact hr
  · cases hr
theorem runOps_mono {c c' : CallF} (h : CallLe c c') : ∀ {l : List LOper} {t : List LV} {st : List LObj} {r : List LV × List LObj}, runOps c l t st = some r → runOps c' l t st = some r
  | [], t, st, r, hr => hr
  | o :: l, t, st, r, hr => by
    simp only [runOps] at hr ⊢
    split at hr
    · rename_i v st' hs
      rw [runOp_mono h hs]
      exact runOps_mono h hr
    · cases hr
theorem heldOk_mono {c c' : CallF} (h : CallLe c c') {st : List LObj} {held : List (DOp × List LV × LV)} (hr : heldOk c st held = true) : heldOk c' st held = true := by
  unfold heldOk at hr ⊢
  rw [List.all_eq_true] at hr ⊢
  intro x hx
  have := hr x hx
  split at this
  · rename_i v s hs
    rw [runOp_mono h hs]
    exact this
  · cases this
theorem runDrawn_mono {c c' : CallF} (h : CallLe c c') : ∀ {l : List DOp} {held : List (DOp × List LV × LV)} {t : List LV} {st : List LObj} {r : List LV × List LObj}, runDrawn c l held t st = some r → runDrawn c' l held t st = some r
  | [], held, t, st, r, hr => hr
  | d :: l, held, t, st, r, hr => by
    simp only [runDrawn] at hr ⊢
    split at hr
    · cases hr
    · rename_i v st' hs
      rw [runOp_mono h hs]
      simp only
      split at hr
      · split at hr
        · rename_i hp; rw [if_pos hp]; exact runDrawn_mono h hr
        · cases hr
      · split at hr
        · rename_i hp
          simp only [Bool.and_eq_true] at hp
          rw [if_pos (by simp [hp.1, heldOk_mono h hp.2])]; exact runDrawn_mono h hr
        · cases hr
      · split at hr
        · rename_i hp
          simp only [Bool.and_eq_true] at hp
          rw [if_pos (by simp only [Bool.and_eq_true]; exact ⟨hp.1, heldOk_mono h hp.2⟩)]; exact runDrawn_mono h hr
        · cases hr
theorem both_same (r : LOut × List LV × List LObj) : both (some r) (some r) = some r := by
  unfold both
  simp [LV.eqbs_refl, eqbSt_refl]
theorem exec_mono {c c' : CallF} (h : CallLe c c') {k : Nat} : ∀ {n m : Nat}, n ≤ m → ∀ {lc : LCode} {t : List LV} {st : List LObj} {r : LOut × List LV × List LObj}, exec c k n lc t st = some r → exec c' k m lc t st = some r
  | 0, m, _, lc, t, st, r, hr => by simp [exec] at hr
  | n + 1, 0, hnm, lc, t, st, r, hr => by omega
  | n + 1, m + 1, hnm, lc, t, st, r, hr => by
    have hle : n ≤ m := by omega
    cases lc with
    | skip => exact hr
    | exit id mask => exact hr
    | ret mask => exact hr
    | fail => simp [exec] at hr
    | region ops =>
      simp only [exec] at hr ⊢
      split at hr
      · rename_i t' st' hs
        rw [runOps_mono h hs]; exact hr
      · cases hr
    | drawn ops =>
      simp only [exec] at hr ⊢
      split at hr
      · rename_i t' st' hs
        rw [runDrawn_mono h hs]; exact hr
      · cases hr
    | seq a b =>
      have go : ∀ {la : LCode} {r}, cont2 (exec c k n la t st) (exec c k n b) = some r → cont2 (exec c' k m la t st) (exec c' k m b) = some r := by
        intro la r hr
        cases ha : exec c k n la t st with
        | none => rw [ha] at hr; cases hr
        | some x =>
          rw [ha] at hr
          rw [exec_mono h hle ha]
          obtain ⟨o, t', st'⟩ := x
          cases o with
          | normal => exact exec_mono h hle hr
          | _ => exact hr
      simp only [exec] at hr ⊢
      exact go hr
    | both x a b d =>
      have go : ∀ {la : LCode} {r}, cont2 (exec c k n la t st) (exec c k n d) = some r → cont2 (exec c' k m la t st) (exec c' k m d) = some r := by
        intro la r hr
        cases ha : exec c k n la t st with
        | none => rw [ha] at hr; cases hr
        | some x =>
          rw [ha] at hr
          rw [exec_mono h hle ha]
          obtain ⟨o, t', st'⟩ := x
          cases o with
          | normal => exact exec_mono h hle hr
          | _ => exact hr
      simp only [exec] at hr ⊢
      split at hr
      · exact go hr
      · exact go hr
      · obtain ⟨e1, e2⟩ := both_eq hr
        rw [go e1, go e2]
        exact both_same r
      · cases hr
    | cond x a b =>
      simp only [exec] at hr ⊢
      split at hr
      · exact exec_mono h hle hr
      · exact exec_mono h hle hr
      · obtain ⟨e1, e2⟩ := both_eq hr
        rw [exec_mono h hle e1, exec_mono h hle e2]
        exact both_same r
      · cases hr
    | block id mask a =>
      simp only [exec] at hr ⊢
      cases ha : exec c k n a t st with
      | none => rw [ha] at hr; cases hr
      | some x =>
        rw [ha] at hr
        rw [exec_mono h hle ha]
        exact hr
    | loop mask a =>
      simp only [exec] at hr ⊢
      split at hr
      · rename_i t0 st0 hg
        cases ha : exec c k n a t0 st0 with
        | none => rw [ha] at hr; cases hr
        | some x =>
          rw [ha] at hr
          rw [exec_mono h hle ha]
          obtain ⟨o, t', st'⟩ := x
          cases o with
          | normal => exact exec_mono h hle hr
          | _ => exact hr
      · cases hr
theorem runF_mono {lp : LProg} : ∀ {n m : Nat}, n ≤ m → CallLe (runF lp n) (runF lp m)
  | 0, m, _ => fun f a s r h => by simp [runF] at h
  | n + 1, 0, hnm => by omega
  | n + 1, m + 1, hnm => by
    intro f a s r h
    refine ⟨?_, rfl⟩
    simp only [runF] at h ⊢
    split at h
    · exact h
    · split at h
      · cases h
      · rename_i lf hlf
        split at h
        · cases h
        · rename_i out t' st' hne hex
          rw [exec_mono (runF_mono (show n ≤ m by omega)) (show n ≤ m by omega) hex]
          simp only
          cases out with
          | exit i => exact (hne i rfl).elim
          | _ => exact h
        · cases h
def Runs (lp : LProg) (f : FuncId) (args : List LV) (st : List LObj) (r : LV × List LObj) : Prop := ∃ n, runF lp n f args st = some r
def Exec (lp : LProg) (k : Nat) (c : LCode) (t : List LV) (st : List LObj) (r : LOut × List LV × List LObj) : Prop := ∃ n, exec (runF lp n) k n c t st = some r
theorem Exec.at {lp : LProg} {k : Nat} {c : LCode} {t : List LV} {st : List LObj} {r : LOut × List LV × List LObj} (h : Exec lp k c t st r) : ∃ n, ∀ m, n ≤ m → exec (runF lp m) k m c t st = some r :=
  let ⟨n, hn⟩ := h
  ⟨n, fun m hm => exec_mono (runF_mono hm) hm hn⟩
theorem Runs.at {lp : LProg} {f : FuncId} {args : List LV} {st : List LObj} {r : LV × List LObj} (h : Runs lp f args st r) : ∃ n, ∀ m, n ≤ m → runF lp m f args st = some r :=
  let ⟨n, hn⟩ := h
  ⟨n, fun m hm => (runF_mono hm _ _ _ _ hn).1⟩
def RunsZ (lp : LProg) (f : FuncId) (args : List LV) (st : List LObj) (r : LV × List LObj) : Prop := ∃ n, callFz (runF lp n) f args st = some r
theorem RunsZ.at {lp : LProg} {f : FuncId} {args : List LV} {st : List LObj} {r : LV × List LObj} (h : RunsZ lp f args st r) : ∃ n, ∀ m, n ≤ m → callFz (runF lp m) f args st = some r := by
  obtain ⟨n, hn⟩ := h
  exact ⟨n, fun m hm => (callFz_mono (runF_mono hm) _ _ _ _ hn).1⟩
theorem gc_pure {st : List LObj} {vs : List LV} (h : vs.flatMap LV.refs = []) : gc 0 vs st = some (vs.map (LV.ren fun q => ([] : List Nat).idxOf q), []) := by
  unfold gc gcIds
  simp only [List.take_zero, List.flatMap_nil, h, List.append_nil, List.range_zero]
  have e : reach st 100000 [] [] = [] := rfl
  rw [e]
  exact if_pos rfl
theorem Runs.z {lp : LProg} {f : FuncId} {args : List LV} {r v : LV} {st st' : List LObj} (h : Runs lp f args [] (r, st)) (hf : frzV st r = (v, st')) (hv : v.refs = []) (hr : v.ren (fun q => ([] : List Nat).idxOf q) = v) : RunsZ lp f args [] (v, []) := by
  obtain ⟨n, hn⟩ := h
  refine ⟨n, ?_⟩
  unfold callFz
  simp only [hn, hf, List.length_nil]
  rw [gc_pure (by simp [hv])]
  simp only [List.map_cons, List.map_nil, hr]
end Go.LS
set_option linter.unusedVariables false
set_option linter.unusedSimpArgs false
namespace Go.LS
inductive Orc where
  | b (c : Bool)
  | op (v : LV) (st : List LObj)
  | call (v : LV) (st : List LObj)
  | lp (out : LOut) (t : List LV) (st : List LObj)
  | lg (out : LOut) (t : List LV) (st : List LObj) (t0 : List LV) (st0 : List LObj)
  | cg (v : LV) (st : List LObj)
abbrev Os := List (Nat × Orc)
def tick : Os → Option Orc × Os
  | (0, o) :: r => (some o, r)
  | (n + 1, o) :: r => (none, (n, o) :: r)
  | [] => (none, [])
def LX.inst (t : List LV) (x : LX) : LX := .const (x.ev t)
def noCall : CallF := ⟨fun _ _ _ => none, fun _ => false⟩
def LOp.inst (t : List LV) : LOp → LOp
  | .mv x => .mv (x.inst t)
  | .pick c a b => .pick (c.inst t) (a.inst t) (b.inst t)
  | .alloc z => .alloc z
  | .box x => .box (x.inst t)
  | .build z ps => .build z (ps.map fun p => (p.1, p.2.1, p.2.2.inst t))
  | .mkrow r s l z ps => .mkrow r s l z (ps.map fun p => (p.1, p.2.inst t))
  | .load a n x => .load a n (x.inst t)
  | .store n x v => .store n (x.inst t) (v.inst t)
  | .nilChk x => .nilChk (x.inst t)
  | .bin o x y => .bin o (x.inst t) (y.inst t)
  | .beq o x y => .beq o (x.inst t) (y.inst t)
  | .peq o x y => .peq o (x.inst t) (y.inst t)
  | .nileq o k x => .nileq o k (x.inst t)
  | .un o x => .un o (x.inst t)
  | .cv k x => .cv k (x.inst t)
  | .fn f cs => .fn f (cs.map (LX.inst t))
  | .fnm f fs cs => .fnm f (fs.map (LX.inst t)) (cs.map (LX.inst t))
  | .clearS z x => .clearS z (x.inst t)
  | .appendR n m a b => .appendR n m (a.inst t) (b.inst t)
  | .iface ty x => .iface ty (x.inst t)
  | .mkmap => .mkmap
  | .mkslice a b z l c => .mkslice a b z (l.inst t) (c.inst t)
  | .sslice x a b c => .sslice (x.inst t) (a.map (LX.inst t)) (b.map (LX.inst t)) (c.map (LX.inst t))
  | .slice n x a b c => .slice n (x.inst t) (a.map (LX.inst t)) (b.map (LX.inst t)) (c.map (LX.inst t))
  | .fieldAddr n x => .fieldAddr n (x.inst t)
  | .field g n m x => .field g n m (x.inst t)
  | .indexAddr n x i => .indexAddr n (x.inst t) (i.inst t)
  | .arrAddr n m x i => .arrAddr n m (x.inst t) (i.inst t)
  | .index x i => .index (x.inst t) (i.inst t)
  | .arrIndex g n m x i => .arrIndex g n m (x.inst t) (i.inst t)
  | .lookup k z o x i => .lookup k z o (x.inst t) (i.inst t)
  | .mapUpdate k a b c => .mapUpdate k (a.inst t) (b.inst t) (c.inst t)
  | .delete k a b => .delete k (a.inst t) (b.inst t)
  | .range x => .range (x.inst t)
  | .next x => .next (x.inst t)
  | .extract x i => .extract (x.inst t) i
  | .call f as => .call f (as.map (LX.inst t))
  | .callv f as => .callv (f.inst t) (as.map (LX.inst t))
  | .callz f as => .callz f (as.map (LX.inst t))
  | .append s n m a b => .append s n m (a.inst t) (b.inst t)
  | .grow n m a b => .grow n m (a.inst t) (b.inst t)
  | .len x => .len (x.inst t)
  | .slen x => .slen (x.inst t)
  | .mlen x => .mlen (x.inst t)
  | .const v => .const v
  | .fail => .fail
  | .seq n l x y => .seq n l (x.inst t) (y.inst t)
  | .retire x => .retire (x.inst t)
  | .cap x => .cap (x.inst t)
  | .mx x y => .mx (x.inst t) (y.inst t)
  | .mn x y => .mn (x.inst t) (y.inst t)
theorem inst_ev (t s : List LV) (x : LX) : (x.inst t).ev s = x.ev t := rfl
theorem inst_evs (t s : List LV) (xs : List LX) : (xs.map (LX.inst t)).map (LX.ev s) = xs.map (LX.ev t) := by rw [List.map_map]; rfl
theorem inst_evo (t s : List LV) (xs : Option LX) : (xs.map (LX.inst t)).map (LX.ev s) = xs.map (LX.ev t) := by cases xs <;> rfl
theorem inst_parts (t s : List LV) : ∀ (ps : List (Nat × Nat × LX)), evParts s (ps.map fun p => (p.1, p.2.1, p.2.2.inst t)) = evParts t ps
  | [] => rfl
  | (a, b, x) :: r => by simp only [List.map_cons, evParts, inst_ev, inst_parts t s r]
theorem inst_row (t s : List LV) : ∀ (ps : List (Nat × LX)), evRow s (ps.map fun p => (p.1, p.2.inst t)) = evRow t ps
  | [] => rfl
  | (a, x) :: r => by simp only [List.map_cons, evRow, inst_ev, inst_row t s r]
theorem opStep_inst (call : CallF) (t s : List LV) (st : List LObj) (op : LOp) : opStep call s st (op.inst t) = opStep call t st op := by
  cases op <;> simp only [LOp.inst, opStep, inst_ev, inst_evs, inst_evo, inst_parts, inst_row]
abbrev OpIs (t : List LV) (st : List LObj) (op : LOp) (v : LV) (st' : List LObj) : Prop := opStep noCall [] st (op.inst t) = some (v, st')
theorem noCall_le (c : CallF) : CallLe noCall c := fun f a s r h => by simp [noCall] at h
theorem OpIs.step {t : List LV} {st st' : List LObj} {op : LOp} {v : LV} (h : OpIs t st op v st') (c : CallF) : opStep c t st op = some (v, st') :=
  opStep_mono (noCall_le c) (by rw [← opStep_inst noCall t []]; exact h)
def callO (lp : LProg) (f : FuncId) (args : List LV) (st : List LObj) (r : LV) (st1 : List LObj) : Option (LV × List LObj × Prop) :=
  let args := wk (lp.weak f) args
  let ids := reach st 100000 (args.flatMap LV.refs) []
  if closed st ids && (args.flatMap LV.refs).all (ids.contains ·) && decide ids.Nodup then
    if ids.length ≤ st1.length then
      let b := back ids st.length
      some (r.ren b, putBack st ids ((st1.take ids.length).map (LObj.ren b)) ++ (st1.drop ids.length).map (LObj.ren b),
        Runs lp f (args.map (LV.ren fun q => ids.idxOf q)) (sub st ids) (r, st1))
    else none
  else none
theorem callO_sound {lp : LProg} {f : FuncId} {args : List LV} {st st1 st' : List LObj} {r v : LV} {p : Prop} (h : callO lp f args st r st1 = some (v, st', p)) (hp : p) :
    ∃ n, ∀ m, n ≤ m → callIso (runF lp m) f args st = some (v, st') := by
  unfold callO at h
  simp only at h
  split at h
  · rename_i hc
    split at h
    · rename_i hl
      cases h
      obtain ⟨n, hn⟩ := Runs.at hp
      refine ⟨n, fun m hm => ?_⟩
      unfold callIso
      simp only
      rw [runF_weak, if_pos hc, hn m hm]
      simp only
      rw [if_pos hl]
    · cases h
  · cases h
def callOz (lp : LProg) (f : FuncId) (args : List LV) (st : List LObj) (r : LV) (st1 : List LObj) : Option (LV × List LObj × Prop) :=
  let args := wk (lp.weak f) args
  let ids := reach st 100000 (args.flatMap LV.refs) []
  if closed st ids && (args.flatMap LV.refs).all (ids.contains ·) && decide ids.Nodup then
    if ids.length ≤ st1.length then
      let b := back ids st.length
      some (r.ren b, putBack st ids ((st1.take ids.length).map (LObj.ren b)) ++ (st1.drop ids.length).map (LObj.ren b),
        RunsZ lp f (args.map (LV.ren fun q => ids.idxOf q)) (sub st ids) (r, st1))
    else none
  else none
theorem callOz_sound {lp : LProg} {f : FuncId} {args : List LV} {st st1 st' : List LObj} {r v : LV} {p : Prop} (h : callOz lp f args st r st1 = some (v, st', p)) (hp : p) :
    ∃ n, ∀ m, n ≤ m → callIso (callFz (runF lp m)) f args st = some (v, st') := by
  unfold callOz at h
  simp only at h
  split at h
  · rename_i hc
    split at h
    · rename_i hl
      cases h
      obtain ⟨n, hn⟩ := RunsZ.at hp
      refine ⟨n, fun m hm => ?_⟩
      unfold callIso
      simp only
      have hw : (callFz (runF lp m)).weak f = lp.weak f := by show (runF lp m).weak f = _; rw [runF_weak]
      rw [hw, if_pos hc, hn m hm]
      simp only
      rw [if_pos hl]
    · cases h
  · cases h
def CallAt (lp : LProg) (f : FuncId) (args : List LV) (st : List LObj) (r : LV × List LObj) : Prop := ∃ n, ∀ m, n ≤ m → callIso (runF lp m) f args st = some r
def gdO (t : List LV) (g : Option (Nat × Bool)) (os : Os) : Option (Bool × List Prop × Os) :=
  match g with
  | none => some (true, [], os)
  | some (j, want) => match tick os with
    | (some (.b c), os') => some (c == want, [t.getD j .und = .p (.bool c)], os')
    | (none, os') => match gd t (some (j, want)) with
      | some b => some (b, [], os')
      | none => none
    | _ => none
abbrev AllP (ps : List Prop) : Prop := ∀ p ∈ ps, p
theorem gdO_sound {t : List LV} {g : Option (Nat × Bool)} {os os' : Os} {b : Bool} {ps : List Prop} (h : gdO t g os = some (b, ps, os')) (hp : AllP ps) : gd t g = some b := by
  unfold gdO at h
  split at h
  · cases h; rfl
  · split at h
    · cases h
      have := hp _ (List.mem_singleton.2 rfl)
      simp only [gd, this]
    · split at h
      · cases h; assumption
      · cases h
    · cases h
def stepO (lp : LProg) (t : List LV) (st : List LObj) (op : LOp) (os : Os) : Option (LV × List LObj × List Prop × Os) :=
  match tick os with
  | (none, os') => match opStep noCall t st op with
    | some (v, st') => some (v, st', [], os')
    | none => none
  | (some (.op v st'), os') => some (v, st', [OpIs t st op v st'], os')
  | (some (.call r st1), os') => match op with
    | .call f args => match callO lp f (args.map (LX.ev t)) st r st1 with
      | some (v, st', p) => some (v, st', [p], os')
      | none => none
    | .callz f args => match callOz lp f (args.map (LX.ev t)) st r st1 with
      | some (v, st', p) => some (v, st', [p], os')
      | none => none
    | .callv f args => match f.ev t with
      | .fn (.func g) first captured => match callO lp g (first ++ args.map (LX.ev t) ++ captured) st r st1 with
        | some (v, st', p) => some (v, st', [p], os')
        | none => none
      | _ => none
    | _ => none
  | (some (.cg v st'), os') => match op with
    | .call f args => some (v, st', [CallAt lp f (args.map (LX.ev t)) st (v, st')], os')
    | .callv f args => match f.ev t with
      | .fn (.func g) first captured => some (v, st', [CallAt lp g (first ++ args.map (LX.ev t) ++ captured) st (v, st')], os')
      | _ => none
    | _ => none
  | (some (.b c), os') => match op with
    | .pick x a b => some (if c then a.ev t else b.ev t, st, [x.ev t = .p (.bool c)], os')
    | _ => none
  | _ => none
theorem stepO_sound {lp : LProg} {t : List LV} {st st' : List LObj} {op : LOp} {os os' : Os} {v : LV} {ps : List Prop} (h : stepO lp t st op os = some (v, st', ps, os')) (hp : AllP ps) :
    ∃ n, ∀ m, n ≤ m → opStep (runF lp m) t st op = some (v, st') := by
  unfold stepO at h
  split at h
  · split at h <;> cases h
    exact ⟨0, fun m _ => opStep_mono (noCall_le _) ‹_›⟩
  · cases h
    have := hp _ (List.mem_singleton.2 rfl)
    exact ⟨0, fun m _ => OpIs.step this _⟩
  · split at h
    · split at h <;> cases h
      exact callO_sound ‹_› (hp _ (List.mem_singleton.2 rfl))
    · split at h <;> cases h
      exact callOz_sound ‹_› (hp _ (List.mem_singleton.2 rfl))
    · split at h
      · rename_i hf
        split at h <;> cases h
        obtain ⟨n, hn⟩ := callO_sound ‹_› (hp _ (List.mem_singleton.2 rfl))
        exact ⟨n, fun m hm => by simp only [opStep, hf]; exact hn m hm⟩
      · cases h
    · cases h
  · split at h
    · cases h
      exact hp _ (List.mem_singleton.2 rfl)
    · split at h
      · rename_i hf
        cases h
        obtain ⟨n, hn⟩ := hp _ (List.mem_singleton.2 rfl)
        exact ⟨n, fun m hm => by simp only [opStep, hf]; exact hn m hm⟩
      · cases h
    · cases h
  · split at h
    · cases h
      have := hp _ (List.mem_singleton.2 rfl)
      exact ⟨0, fun m _ => by simp only [opStep, this]⟩
    · cases h
  · cases h
def operO (lp : LProg) (t : List LV) (st : List LObj) (o : LOper) (os : Os) : Option (LV × List LObj × List Prop × Os × Bool) :=
  match gdO t o.guard os with
  | some (true, ps, os1) => match stepO lp t st o.op os1 with
    | some (v, st', qs, os2) => some (v, st', ps ++ qs, os2, true)
    | none => none
  | some (false, ps, os1) => some (.tup [], st, ps, os1, false)
  | none => none
theorem allP_append {ps qs : List Prop} (h : AllP (ps ++ qs)) : AllP ps ∧ AllP qs := ⟨fun p hp => h p (List.mem_append_left _ hp), fun p hp => h p (List.mem_append_right _ hp)⟩
theorem operO_sound {lp : LProg} {t : List LV} {st st' : List LObj} {o : LOper} {os os' : Os} {v : LV} {ps : List Prop} {d : Bool} (h : operO lp t st o os = some (v, st', ps, os', d)) (hp : AllP ps) :
    gd t o.guard = some d ∧ ∃ n, ∀ m, n ≤ m → runOp (runF lp m) t st o = some (v, st') := by
  unfold operO at h
  split at h
  · rename_i ps1 os1 hg
    split at h
    · rename_i v' st1 qs os2 hs
      cases h
      obtain ⟨h1, h2⟩ := allP_append hp
      obtain ⟨n, hn⟩ := stepO_sound hs h2
      have := gdO_sound hg h1
      exact ⟨this, n, fun m hm => by unfold runOp; rw [this]; exact hn m hm⟩
    · cases h
  · rename_i ps1 os1 hg
    cases h
    have := gdO_sound hg hp
    exact ⟨this, 0, fun m _ => by unfold runOp; rw [this]⟩
  · cases h
def opsO (lp : LProg) : List LOper → List LV → List LObj → Os → Option (List LV × List LObj × List Prop × Os)
  | [], t, st, os => some (t, st, [], os)
  | o :: r, t, st, os => match operO lp t st o os with
    | some (v, st', ps, os', _) => match opsO lp r (putT t o.dst v) st' os' with
      | some (t', st'', qs, os'') => some (t', st'', ps ++ qs, os'')
      | none => none
    | none => none
theorem opsO_sound {lp : LProg} : ∀ {l : List LOper} {t t' : List LV} {st st' : List LObj} {os os' : Os} {ps : List Prop}, opsO lp l t st os = some (t', st', ps, os') → AllP ps →
    ∃ n, ∀ m, n ≤ m → runOps (runF lp m) l t st = some (t', st')
  | [], t, t', st, st', os, os', ps, h, _ => by simp only [opsO] at h; cases h; exact ⟨0, fun m _ => rfl⟩
  | o :: r, t, t', st, st', os, os', ps, h, hp => by
    simp only [opsO] at h
    split at h
    · rename_i v st1 ps1 os1 d hs
      split at h
      · rename_i t2 st2 qs os2 hr
        cases h
        obtain ⟨h1, h2⟩ := allP_append hp
        obtain ⟨_, n, hn⟩ := operO_sound hs h1
        obtain ⟨k, hk⟩ := opsO_sound hr h2
        exact ⟨max n k, fun m hm => by simp only [runOps, hn m (by omega)]; exact hk m (by omega)⟩
      · cases h
    · cases h
def heldP (st : List LObj) (held : List (DOp × List LV × LV)) : List Prop := held.map fun x => OpIs x.2.1 st x.1.op.op x.2.2 st
theorem heldP_sound {lp : LProg} {m : Nat} {st : List LObj} {held : List (DOp × List LV × LV)} (h : AllP (heldP st held)) (hg : ∀ x ∈ held, gd x.2.1 x.1.op.guard = some true) : heldOk (runF lp m) st held = true := by
  unfold heldOk
  rw [List.all_eq_true]
  intro x hx
  have := h _ (List.mem_map.2 ⟨x, hx, rfl⟩)
  unfold runOp
  rw [hg x hx]
  simp only [OpIs.step this, LV.eqb_refl]
def drawnO (lp : LProg) : List DOp → List (DOp × List LV × LV) → List LV → List LObj → Os → Option (List LV × List LObj × List Prop × Os)
  | [], _, t, st, os => some (t, st, [], os)
  | d :: r, held, t, st, os => match operO lp t st d.op os with
    | none => none
    | some (v, st', ps, os', done) =>
      match d.cls with
      | .h => if pureV d.op.op v then
          match drawnO lp r (if statB t d.op.op || !done then held else (d, t, v) :: held) (putT t d.op.dst v) st' os' with
          | some (t', st'', qs, os'') => some (t', st'', ps ++ qs, os'')
          | none => none
        else none
      | .a => if newOk st st' then
          match drawnO lp r held (putT t d.op.dst v) st' os' with
          | some (t', st'', qs, os'') => some (t', st'', ps ++ heldP st' held ++ qs, os'')
          | none => none
        else none
      | .c => if decide (st.length ≤ st'.length) then
          match drawnO lp r (held.filter fun x => !d.must.contains x.1.idx) (putT t d.op.dst v) st' os' with
          | some (t', st'', qs, os'') => some (t', st'', ps ++ heldP st' (held.filter fun x => !d.must.contains x.1.idx) ++ qs, os'')
          | none => none
        else none
abbrev HeldSub (held heldO : List (DOp × List LV × LV)) : Prop := ∀ x ∈ held, x ∈ heldO ∨ (gd x.2.1 x.1.op.guard = some false ∧ x.2.2 = .tup [])
theorem heldSub_ok {lp : LProg} {m : Nat} {st : List LObj} {held heldO : List (DOp × List LV × LV)} (hs : HeldSub held heldO) (h : AllP (heldP st heldO)) (hg : ∀ x ∈ heldO, gd x.2.1 x.1.op.guard = some true) :
    heldOk (runF lp m) st held = true := by
  unfold heldOk
  rw [List.all_eq_true]
  intro x hx
  rcases hs x hx with hx | ⟨h1, h2⟩
  · have := List.all_eq_true.1 (heldP_sound (lp := lp) (m := m) h hg) x hx
    exact this
  · unfold runOp
    rw [h1, h2]
    rfl
theorem drawnO_sound {lp : LProg} : ∀ {l : List DOp} {heldO : List (DOp × List LV × LV)} {t t' : List LV} {st st' : List LObj} {os os' : Os} {ps : List Prop}, drawnO lp l heldO t st os = some (t', st', ps, os') → AllP ps →
    (∀ x ∈ heldO, gd x.2.1 x.1.op.guard = some true) → ∃ n, ∀ m, n ≤ m → ∀ held, HeldSub held heldO → runDrawn (runF lp m) l held t st = some (t', st')
  | [], heldO, t, t', st, st', os, os', ps, h, _, _ => by simp only [drawnO] at h; cases h; exact ⟨0, fun m _ held _ => rfl⟩
  | d :: r, heldO, t, t', st, st', os, os', ps, h, hp, hg => by
    simp only [drawnO] at h
    split at h
    · cases h
    · rename_i v st1 ps1 os1 done hs
      split at h
      · rename_i hc
        split at h
        · rename_i hpv
          split at h
          · rename_i t2 st2 qs os2 hr
            cases h
            obtain ⟨h1, h2⟩ := allP_append hp
            obtain ⟨hgd, n, hn⟩ := operO_sound hs h1
            obtain ⟨k, hk⟩ := drawnO_sound hr h2 (fun x hx => by
              split at hx
              · exact hg x hx
              · rename_i hst
                rcases List.mem_cons.1 hx with rfl | hx
                · have : done = true := by cases done <;> simp_all
                  rw [this] at hgd; exact hgd
                · exact hg x hx)
            refine ⟨max n k, fun m hm held hsub => ?_⟩
            simp only [runDrawn, hn m (by omega), hc]
            rw [if_pos hpv]
            refine hk m (by omega) _ (fun x hx => ?_)
            split at hx
            · rename_i hst
              rw [if_pos (by simp [hst])]
              exact hsub x hx
            · rename_i hst
              rcases List.mem_cons.1 hx with rfl | hx
              · cases hdn : done with
                | true => rw [if_neg (by simp [hst])]; exact .inl (by simp)
                | false =>
                  rw [hdn] at hgd
                  refine .inr ⟨hgd, ?_⟩
                  have := hn n (Nat.le_refl _)
                  unfold runOp at this
                  rw [hgd] at this
                  cases this; rfl
              · rcases hsub x hx with h | h
                · refine .inl ?_
                  split
                  · exact h
                  · exact List.mem_cons_of_mem _ h
                · exact .inr h
          · cases h
        · cases h
      · rename_i hc
        split at h
        · rename_i hnew
          split at h
          · rename_i t2 st2 qs os2 hr
            cases h
            obtain ⟨h12, h3⟩ := allP_append hp
            obtain ⟨h1, h2⟩ := allP_append h12
            obtain ⟨hgd, n, hn⟩ := operO_sound hs h1
            obtain ⟨k, hk⟩ := drawnO_sound hr h3 hg
            refine ⟨max n k, fun m hm held hsub => ?_⟩
            simp only [runDrawn, hn m (by omega), hc]
            rw [if_pos (by simp only [Bool.and_eq_true]; exact ⟨hnew, heldSub_ok hsub h2 hg⟩)]
            exact hk m (by omega) _ hsub
          · cases h
        · cases h
      · rename_i hc
        split at h
        · rename_i hlen
          split at h
          · rename_i t2 st2 qs os2 hr
            cases h
            obtain ⟨h12, h3⟩ := allP_append hp
            obtain ⟨h1, h2⟩ := allP_append h12
            obtain ⟨hgd, n, hn⟩ := operO_sound hs h1
            have hg' : ∀ x ∈ heldO.filter (fun x => !d.must.contains x.1.idx), gd x.2.1 x.1.op.guard = some true := fun x hx => hg x (List.mem_filter.1 hx).1
            obtain ⟨k, hk⟩ := drawnO_sound hr h3 hg'
            refine ⟨max n k, fun m hm held hsub => ?_⟩
            have hsub' : HeldSub (held.filter fun x => !d.must.contains x.1.idx) (heldO.filter fun x => !d.must.contains x.1.idx) := by
              intro x hx
              obtain ⟨a, b⟩ := List.mem_filter.1 hx
              rcases hsub x a with h | h
              · exact .inl (List.mem_filter.2 ⟨h, b⟩)
              · exact .inr h
            simp only [runDrawn, hn m (by omega), hc]
            rw [if_pos (by simp only [Bool.and_eq_true]; exact ⟨hlen, heldSub_ok hsub' h2 hg'⟩)]
            exact hk m (by omega) _ hsub'
          · cases h
        · cases h
def LoopAt (lp : LProg) (k : Nat) (mask : List Bool) (c : LCode) (t : List LV) (st : List LObj) (r : LOut × List LV × List LObj) : Prop :=
  ∃ n, (match exec (runF lp n) k n c t st with
    | some (.normal, t', st') => exec (runF lp n) k n (.loop mask c) t' st'
    | r => r) = some r
def execO (lp : LProg) (k : Nat) : Nat → LCode → List LV → List LObj → Os → Option (LOut × List LV × List LObj × List Prop × Os)
  | 0, _, _, _, _ => none
  | n + 1, c, t, st, os => match c with
    | .skip => some (.normal, t, st, [], os)
    | .region ops => match opsO lp ops t st os with
      | some (t', st', ps, os') => some (.normal, t', st', ps, os')
      | none => none
    | .drawn ops => match drawnO lp ops [] t st os with
      | some (t', st', ps, os') => some (.normal, t', st', ps, os')
      | none => none
    | .seq a b => match execO lp k n a t st os with
      | some (.normal, t', st', ps, os') => (match execO lp k n b t' st' os' with
        | some (o, t'', st'', qs, os'') => some (o, t'', st'', ps ++ qs, os'')
        | none => none)
      | r => r
    | .cond x a b => match tick os with
      | (some (.b c), os') => (match execO lp k n (if c then a else b) t st os' with
        | some (o, t', st', ps, os'') => some (o, t', st', (x.ev t = .p (.bool c)) :: ps, os'')
        | none => none)
      | (none, os') => (match x.ev t with
        | .p (.bool true) => execO lp k n a t st os'
        | .p (.bool false) => execO lp k n b t st os'
        | _ => none)
      | _ => none
    | .both x a b c => execO lp k n (.seq (.cond x a b) c) t st os
    | .block id mask c => match execO lp k n c t st os with
      | some (.exit i, t', st', ps, os') => if i = id then some (.normal, kill mask t', st', ps, os') else some (.exit i, t', st', ps, os')
      | some (.normal, t', st', ps, os') => some (.normal, kill mask t', st', ps, os')
      | r => r
    | .loop mask c => match tick os with
      | (some (.lp out t' st'), os') => (match gc k (kill mask t) st with
        | some (t0, st0) => some (out, t', st', [LoopAt lp k mask c t0 st0 (out, t', st')], os')
        | none => none)
      | (some (.lg out t' st' t0 st0), os') => some (out, t', st', [gc k (kill mask t) st = some (t0, st0), LoopAt lp k mask c t0 st0 (out, t', st')], os')
      | _ => none
    | .exit id mask => some (.exit id, kill mask t, st, [], os)
    | .ret mask => some (.ret, kill mask t, st, [], os)
    | .fail => none
theorem exec_both {c : CallF} {k m : Nat} {x : LX} {a b d : LCode} {t : List LV} {st : List LObj} {r : LOut × List LV × List LObj} (h : exec c k m (.seq (.cond x a b) d) t st = some r) : exec c k (m + 1) (.both x a b d) t st = some r := by
  cases m with
  | zero => simp [exec] at h
  | succ m =>
    cases m with
    | zero => simp [exec, cont2] at h
    | succ m =>
      show (match x.ev t with
        | .p (.bool true) => cont2 (exec c k (m + 1 + 1) a t st) (exec c k (m + 1 + 1) d)
        | .p (.bool false) => cont2 (exec c k (m + 1 + 1) b t st) (exec c k (m + 1 + 1) d)
        | .anyb => both (cont2 (exec c k (m + 1 + 1) a t st) (exec c k (m + 1 + 1) d)) (cont2 (exec c k (m + 1 + 1) b t st) (exec c k (m + 1 + 1) d))
        | _ => none) = some r
      replace h : cont2 (match x.ev t with
        | .p (.bool true) => exec c k m a t st
        | .p (.bool false) => exec c k m b t st
        | .anyb => both (exec c k m a t st) (exec c k m b t st)
        | _ => none) (exec c k (m + 1) d) = some r := h
      have up : ∀ {lz : LCode} {y}, exec c k m lz t st = some y → cont2 (some y) (exec c k (m + 1) d) = some r → cont2 (exec c k (m + 1 + 1) lz t st) (exec c k (m + 1 + 1) d) = some r := by
        intro lz y h1 h2
        rw [exec_mono (fun _ _ _ _ h => ⟨h, rfl⟩) (show m ≤ m + 1 + 1 by omega) h1]
        obtain ⟨o, t', st'⟩ := y
        cases o with
        | normal => exact exec_mono (fun _ _ _ _ h => ⟨h, rfl⟩) (show m + 1 ≤ m + 1 + 1 by omega) h2
        | _ => exact h2
      split at h
      · rename_i hx
        cases he : exec c k m a t st with
        | none => rw [he] at h; cases h
        | some y => rw [he] at h; (try simp only [hx]); exact up he h
      · rename_i hx
        cases he : exec c k m b t st with
        | none => rw [he] at h; cases h
        | some y => rw [he] at h; (try simp only [hx]); exact up he h
      · rename_i hx
        cases hb : both (exec c k m a t st) (exec c k m b t st) with
        | none => rw [hb] at h; cases h
        | some y =>
          rw [hb] at h
          obtain ⟨e1, e2⟩ := both_eq hb
          try simp only [hx]
          rw [up e1 h, up e2 h]
          exact both_same r
      · cases h
theorem execO_sound {lp : LProg} {k : Nat} : ∀ {n : Nat} {c : LCode} {t t' : List LV} {st st' : List LObj} {os os' : Os} {ps : List Prop} {o : LOut}, execO lp k n c t st os = some (o, t', st', ps, os') → AllP ps →
    Exec lp k c t st (o, t', st')
  | 0, c, t, t', st, st', os, os', ps, o, h, _ => by simp [execO] at h
  | n + 1, c, t, t', st, st', os, os', ps, o, h, hp => by
    cases c with
    | skip => simp only [execO] at h; cases h; exact ⟨1, rfl⟩
    | exit id mask => simp only [execO] at h; cases h; exact ⟨1, rfl⟩
    | ret mask => simp only [execO] at h; cases h; exact ⟨1, rfl⟩
    | fail => simp [execO] at h
    | region ops =>
      simp only [execO] at h
      split at h
      · rename_i t1 st1 ps1 os1 hs
        cases h
        obtain ⟨m, hm⟩ := opsO_sound hs hp
        exact ⟨m + 1, by simp only [exec]; rw [hm (m + 1) (by omega)]⟩
      · cases h
    | drawn ops =>
      simp only [execO] at h
      split at h
      · rename_i t1 st1 ps1 os1 hs
        cases h
        obtain ⟨m, hm⟩ := drawnO_sound hs hp (by simp)
        exact ⟨m + 1, by simp only [exec]; rw [hm (m + 1) (by omega) [] (by simp)]⟩
      · cases h
    | seq a b =>
      simp only [execO] at h
      split at h
      · rename_i t1 st1 ps1 os1 hs
        split at h
        · rename_i o2 t2 st2 ps2 os2 hs2
          cases h
          obtain ⟨h1, h2⟩ := allP_append hp
          obtain ⟨m1, e1⟩ := (execO_sound hs h1).at
          obtain ⟨m2, e2⟩ := (execO_sound hs2 h2).at
          refine ⟨max m1 m2 + 1, ?_⟩
          simp only [exec, cont2]
          rw [exec_mono (runF_mono (by omega)) (Nat.le_refl _) (e1 (max m1 m2) (by omega))]
          exact exec_mono (runF_mono (by omega)) (Nat.le_refl _) (e2 (max m1 m2) (by omega))
        · cases h
      · rename_i r hne
        cases ha : execO lp k n a t st os with
        | none => rw [ha] at h; cases h
        | some x =>
          obtain ⟨o1, t1, st1, ps1, os1⟩ := x
          rw [ha] at h
          cases h
          obtain ⟨m, e⟩ := (execO_sound ha hp).at
          refine ⟨m + 1, ?_⟩
          simp only [exec, cont2]
          rw [exec_mono (runF_mono (by omega)) (Nat.le_refl _) (e m (Nat.le_refl _))]
          cases o with
          | normal => exact absurd ha (hne _ _ _ _)
          | _ => rfl
    | cond x a b =>
      simp only [execO] at h
      split at h
      · rename_i c os1 _
        split at h
        · rename_i o1 t1 st1 ps1 os2 hs
          cases h
          have hx := hp _ (List.mem_cons_self ..)
          obtain ⟨m, e⟩ := (execO_sound hs (fun p hm => hp p (List.mem_cons_of_mem _ hm))).at
          refine ⟨m + 1, ?_⟩
          simp only [exec, hx]
          have := exec_mono (runF_mono (lp := lp) (show m ≤ m + 1 by omega)) (Nat.le_refl _) (e m (Nat.le_refl _))
          cases c <;> exact this
        · cases h
      · split at h
        · rename_i hx
          obtain ⟨m, e⟩ := (execO_sound h hp).at
          refine ⟨m + 1, ?_⟩
          simp only [exec, hx]
          exact exec_mono (runF_mono (by omega)) (Nat.le_refl _) (e m (Nat.le_refl _))
        · rename_i hx
          obtain ⟨m, e⟩ := (execO_sound h hp).at
          refine ⟨m + 1, ?_⟩
          simp only [exec, hx]
          exact exec_mono (runF_mono (by omega)) (Nat.le_refl _) (e m (Nat.le_refl _))
        · cases h
      · cases h
    | both x a b d =>
      simp only [execO] at h
      obtain ⟨m, e⟩ := (execO_sound h hp).at
      exact ⟨m + 1, exec_mono (runF_mono (by omega)) (Nat.le_refl _) (exec_both (e m (Nat.le_refl _)))⟩
    | block id mask a =>
      simp only [execO] at h
      have go : ∀ {o1 t1 st1 ps1 os1}, execO lp k n a t st os = some (o1, t1, st1, ps1, os1) → AllP ps1 → ∃ m, exec (runF lp (m + 1)) k m a t st = some (o1, t1, st1) := by
        intro o1 t1 st1 ps1 os1 hs hp1
        obtain ⟨m, e⟩ := (execO_sound hs hp1).at
        exact ⟨m, exec_mono (runF_mono (by omega)) (Nat.le_refl _) (e m (Nat.le_refl _))⟩
      split at h
      · rename_i i t1 st1 ps1 os1 hs
        split at h
        · rename_i hi
          cases h
          obtain ⟨m, e⟩ := go hs hp
          exact ⟨m + 1, by simp only [exec, e]; rw [if_pos hi]⟩
        · rename_i hi
          cases h
          obtain ⟨m, e⟩ := go hs hp
          exact ⟨m + 1, by simp only [exec, e]; rw [if_neg hi]⟩
      · rename_i t1 st1 ps1 os1 hs
        cases h
        obtain ⟨m, e⟩ := go hs hp
        exact ⟨m + 1, by simp only [exec, e]⟩
      · rename_i r hne1 hne2
        cases ha : execO lp k n a t st os with
        | none => rw [ha] at h; cases h
        | some x =>
          obtain ⟨o1, t1, st1, ps1, os1⟩ := x
          rw [ha] at h
          cases h
          obtain ⟨m, e⟩ := go ha hp
          refine ⟨m + 1, ?_⟩
          simp only [exec, e]
          cases o with
          | normal => exact absurd ha (hne2 _ _ _ _)
          | exit i => exact absurd ha (hne1 _ _ _ _ _)
          | ret => rfl
    | loop mask a =>
      simp only [execO] at h
      split at h
      · rename_i out t1 st1 os1 _
        split at h
        · rename_i t0 st0 hg
          cases h
          obtain ⟨m, hm⟩ := hp _ (List.mem_singleton.2 rfl)
          refine ⟨m + 1, ?_⟩
          simp only [exec, hg]
          cases he : exec (runF lp m) k m a t0 st0 with
          | none => rw [he] at hm; cases hm
          | some x =>
            obtain ⟨o2, t2, st2⟩ := x
            rw [he] at hm
            rw [exec_mono (runF_mono (show m ≤ m + 1 by omega)) (Nat.le_refl _) he]
            cases o2 with
            | normal => exact exec_mono (runF_mono (by omega)) (Nat.le_refl _) hm
            | _ => exact hm
        · cases h
      · cases h
        have hg := hp _ (List.mem_cons_self ..)
        rename_i t0 st0 _
        obtain ⟨m, hm⟩ := hp _ (List.mem_cons_of_mem _ (List.mem_singleton.2 rfl))
        refine ⟨m + 1, ?_⟩
        simp only [exec, hg]
        cases he : exec (runF lp m) k m a t0 st0 with
        | none => rw [he] at hm; cases hm
        | some x =>
          obtain ⟨o2, t2, st2⟩ := x
          rw [he] at hm
          rw [exec_mono (runF_mono (show m ≤ m + 1 by omega)) (Nat.le_refl _) he]
          cases o2 with
          | normal => exact exec_mono (runF_mono (by omega)) (Nat.le_refl _) hm
          | _ => exact hm
      · cases h
end Go.LS
set_option linter.unusedVariables false
set_option linter.unusedSimpArgs false
namespace Go.LS
def Conj : List Prop → Prop
  | [] => True
  | p :: r => p ∧ Conj r
theorem Conj.all : ∀ {ps : List Prop}, Conj ps → AllP ps
  | [], _, p, hp => by cases hp
  | q :: r, h, p, hp => by
    rcases List.mem_cons.1 hp with rfl | hp
    · exact h.1
    · exact h.2.all p hp
def runO (lp : LProg) (N : Nat) (f : FuncId) (args : List LV) (st : List LObj) (os : Os) : Option (LV × List LObj × List Prop) :=
  match lp.summ f with
  | some _ => none
  | none => match lp.fns f with
    | none => none
    | some lf => match execO lp st.length N lf.body (wk (lp.weak f) args ++ List.replicate (lf.ntmps - args.length) .und) st os with
      | some (.exit _, _, _, _, _) => none
      | some (_, t', st', ps, _) => match evRes t' st' lf.results with
        | some vs => match frz (lp.wres f) st' vs with
          | (vs, st') => (match gc st.length vs st' with
            | some (vs', st'') => some (oneRes vs', st'', ps)
            | none => none)
        | none => none
      | none => none
theorem runO_sound {lp : LProg} {N : Nat} {f : FuncId} {args : List LV} {st st' : List LObj} {os : Os} {v : LV} {ps : List Prop} (h : runO lp N f args st os = some (v, st', ps)) (hp : Conj ps) : Runs lp f args st (v, st') := by
  unfold runO at h
  split at h
  · cases h
  · rename_i hsm
    split at h
    · cases h
    · rename_i lf hlf
      split at h
      · cases h
      · rename_i out t1 st1 ps1 os1 hne hex
        split at h
        · rename_i vs hvs
          dsimp only at h
          split at h
          · rename_i vs' st2 hgc
            simp only [Option.some.injEq, Prod.mk.injEq] at h
            obtain ⟨rfl, rfl, rfl⟩ := h
            obtain ⟨n, hn⟩ := execO_sound hex hp.all
            refine ⟨n + 1, ?_⟩
            simp only [runF, hsm, hlf, hn]
            cases out with
            | exit i => exact (hne i rfl).elim
            | normal => simp only [hvs, hgc]
            | ret => simp only [hvs, hgc]
          · cases h
        · cases h
      · cases h
def roundO (lp : LProg) (N k : Nat) (mask : List Bool) (c : LCode) (t : List LV) (st : List LObj) (os : Os) : Option (LOut × List LV × List LObj × List Prop) :=
  match execO lp k N c t st os with
  | some (.normal, t', st', ps, _) => match gc k (kill mask t') st' with
    | some (t'', st'') => some (.normal, t'', st'', ps)
    | none => none
  | some (o, t', st', ps, _) => some (o, t', st', ps)
  | none => none
theorem LoopAt.on {lp : LProg} {N k : Nat} {mask : List Bool} {c : LCode} {t t' : List LV} {st st' : List LObj} {os : Os} {ps : List Prop} {r : LOut × List LV × List LObj}
    (h : roundO lp N k mask c t st os = some (.normal, t', st', ps)) (hp : Conj ps) (hr : LoopAt lp k mask c t' st' r) : LoopAt lp k mask c t st r := by
  unfold roundO at h
  split at h
  · rename_i t1 st1 ps1 os1 hex
    split at h
    · rename_i t2 st2 hg
      simp only [Option.some.injEq, Prod.mk.injEq, true_and] at h
      obtain ⟨rfl, rfl, rfl⟩ := h
      obtain ⟨n, hn⟩ := (execO_sound hex hp.all).at
      obtain ⟨m, hm⟩ := hr
      refine ⟨max n m + 1, ?_⟩
      rw [hn (max n m + 1) (by omega)]
      simp only [exec, hg]
      cases he : exec (runF lp m) k m c t2 st2 with
      | none => rw [he] at hm; cases hm
      | some x =>
        obtain ⟨o2, t3, st3⟩ := x
        rw [he] at hm
        rw [exec_mono (runF_mono (show m ≤ max n m + 1 by omega)) (show m ≤ max n m by omega) he]
        cases o2 with
        | normal => exact exec_mono (runF_mono (by omega)) (by omega) hm
        | _ => exact hm
    · cases h
  · rename_i hne hex
    simp only [Option.some.injEq, Prod.mk.injEq] at h
    obtain ⟨rfl, rfl, rfl, rfl⟩ := h
    exact (hne rfl).elim
  · cases h
theorem LoopAt.out {lp : LProg} {N k : Nat} {mask : List Bool} {c : LCode} {t t' : List LV} {st st' : List LObj} {os : Os} {ps : List Prop} {o : LOut}
    (h : roundO lp N k mask c t st os = some (o, t', st', ps)) (ho : (match o with | .normal => false | _ => true) = true) (hp : Conj ps) : LoopAt lp k mask c t st (o, t', st') := by
  unfold roundO at h
  split at h
  · split at h
    · cases h; cases ho
    · cases h
  · rename_i o1 t1 st1 ps1 os1 hne hex
    simp only [Option.some.injEq, Prod.mk.injEq] at h
    obtain ⟨rfl, rfl, rfl, rfl⟩ := h
    obtain ⟨n, hn⟩ := execO_sound hex hp.all
    refine ⟨n, ?_⟩
    rw [hn]
    cases o1 with
    | normal => cases ho
    | _ => rfl
  · cases h
def loopsOf : LCode → List (List Bool × LCode)
  | .seq a b => loopsOf a ++ loopsOf b
  | .cond _ a b => loopsOf a ++ loopsOf b
  | .both _ a b c => loopsOf a ++ loopsOf b ++ loopsOf c
  | .block _ _ c => loopsOf c
  | .loop m c => (m, c) :: loopsOf c
  | _ => []
def loopNo (lf : LFn) (i : Nat) : List Bool × LCode := (loopsOf lf.body).getD i ([], .skip)
def tl (i : Nat) : Nat → List (Nat × LV) → List LV
  | 0, _ => []
  | n + 1, [] => .und :: tl (i + 1) n []
  | n + 1, (j, v) :: r => match Nat.beq i j with
    | true => v :: tl (i + 1) n r
    | false => .und :: tl (i + 1) n ((j, v) :: r)
abbrev OpW (st : List LObj) (op : LOp) (v : LV) (st' : List LObj) : Prop := opStep noCall [] st op = some (v, st')
abbrev LoopN (lp : LProg) (k : Nat) (x : List Bool × LCode) (t : List LV) (st : List LObj) (r : LOut × List LV × List LObj) : Prop := LoopAt lp k x.1 x.2 t st r
def oO {st st' : List LObj} {op : LOp} {v : LV} (_ : OpW st op v st') : Orc := .op v st'
def oC {lp : LProg} {f : Nat} {as : List LV} {st st' : List LObj} {v : LV} (_ : Runs lp f as st (v, st')) : Orc := .call v st'
def oZ {lp : LProg} {f : Nat} {as : List LV} {st st' : List LObj} {v : LV} (_ : RunsZ lp f as st (v, st')) : Orc := .call v st'
def oL {lp : LProg} {k : Nat} {x : List Bool × LCode} {t t' : List LV} {st st' : List LObj} {o : LOut} (_ : LoopN lp k x t st (o, t', st')) : Orc := .lp o t' st'
theorem cI {b c : Bool} (h : b = c) : LV.p (PV.bool b) = .p (.bool c) := congrArg (fun b => LV.p (PV.bool b)) h
theorem iteT {lp : LProg} {f : FuncId} {a : List LV} {s : List LObj} {c : Bool} {x y : LV × List LObj} (h : Runs lp f a s (if c = true then x else y)) (hc : c = true) : Runs lp f a s x := by rwa [if_pos hc] at h
theorem iteF {lp : LProg} {f : FuncId} {a : List LV} {s : List LObj} {c : Bool} {x y : LV × List LObj} (h : Runs lp f a s (if c = true then x else y)) (hc : c = false) : Runs lp f a s y := by rwa [if_neg (by simp [hc])] at h
theorem notI {b c : Bool} (h : b = c) : (!b) = !c := by rw [h]
end Go.LS
namespace Go.LS
def runE (lp : LProg) (N : Nat) (f : FuncId) (args : List LV) (st : List LObj) (os : Os) : Option (List LV × List LObj × List Prop) :=
  match lp.summ f with
  | some _ => none
  | none => match lp.fns f with
    | none => none
    | some lf => match execO lp st.length N lf.body (wk (lp.weak f) args ++ List.replicate (lf.ntmps - args.length) .und) st os with
      | some (.exit _, _, _, _, _) => none
      | some (_, t', st', ps, _) => match evRes t' st' lf.results with
        | some vs => some (vs, st', ps)
        | none => none
      | none => none
theorem runE_sound {lp : LProg} {N : Nat} {f : FuncId} {args : List LV} {st st1 s1 st2 : List LObj} {os : Os} {vs vs1 vs2 : List LV} {ps : List Prop} (h : runE lp N f args st os = some (vs, st1, ps)) (hp : Conj ps)
    (hf : frz (lp.wres f) st1 vs = (vs1, s1)) (hg : gc st.length vs1 s1 = some (vs2, st2)) : Runs lp f args st (oneRes vs2, st2) := by
  unfold runE at h
  split at h
  · cases h
  · rename_i hsm
    split at h
    · cases h
    · rename_i lf hlf
      split at h
      · cases h
      · rename_i out t1 st1' ps1 os1 hne hex
        split at h
        · rename_i vs' hvs
          simp only [Option.some.injEq, Prod.mk.injEq] at h
          obtain ⟨rfl, rfl, rfl⟩ := h
          obtain ⟨n, hn⟩ := execO_sound hex hp.all
          refine ⟨n + 1, ?_⟩
          simp only [runF, hsm, hlf, hn]
          cases out with
          | exit i => exact (hne i rfl).elim
          | normal => simp only [hvs, hf, hg]
          | ret => simp only [hvs, hf, hg]
        · cases h
      · cases h
def roundE (lp : LProg) (N k : Nat) (mask : List Bool) (c : LCode) (t : List LV) (st : List LObj) (os : Os) : Option (List LV × List LObj × List Prop) :=
  match execO lp k N c t st os with
  | some (.normal, t', st', ps, _) => some (kill mask t', st', ps)
  | _ => none
theorem LoopAt.onS {lp : LProg} {N k : Nat} {mask : List Bool} {c : LCode} {t t1 t' : List LV} {st st1 st' : List LObj} {os : Os} {ps : List Prop} {r : LOut × List LV × List LObj}
    (h : roundE lp N k mask c t st os = some (t1, st1, ps)) (hp : Conj ps) (hg : gc k t1 st1 = some (t', st')) (hr : LoopAt lp k mask c t' st' r) : LoopAt lp k mask c t st r := by
  unfold roundE at h
  split at h
  · rename_i t2 st2 ps1 os1 hex
    simp only [Option.some.injEq, Prod.mk.injEq] at h
    obtain ⟨rfl, rfl, rfl⟩ := h
    obtain ⟨n, hn⟩ := (execO_sound hex hp.all).at
    obtain ⟨m, hm⟩ := hr
    refine ⟨max n m + 1, ?_⟩
    rw [hn (max n m + 1) (by omega)]
    simp only [exec, hg]
    cases he : exec (runF lp m) k m c t' st' with
    | none => rw [he] at hm; cases hm
    | some x =>
      obtain ⟨o2, t3, st3⟩ := x
      rw [he] at hm
      rw [exec_mono (runF_mono (show m ≤ max n m + 1 by omega)) (show m ≤ max n m by omega) he]
      cases o2 with
      | normal => exact exec_mono (runF_mono (by omega)) (by omega) hm
      | _ => exact hm
  · cases h
theorem refs_at {st sh : List LObj} (hr : st.map LObj.refs = sh.map LObj.refs) (o : Nat) : ((st[o]?).getD .dead).refs = ((sh[o]?).getD .dead).refs := by
  have h : (st.map LObj.refs)[o]? = (sh.map LObj.refs)[o]? := by rw [hr]
  rw [List.getElem?_map, List.getElem?_map] at h
  cases h1 : st[o]? with
  | none => cases h2 : sh[o]? with
    | none => rfl
    | some y => rw [h1, h2] at h; cases h
  | some x => cases h2 : sh[o]? with
    | none => rw [h1, h2] at h; cases h
    | some y => rw [h1, h2] at h; simpa using h
theorem reach_sh {st sh : List LObj} (hr : st.map LObj.refs = sh.map LObj.refs) : ∀ (n : Nat) (todo acc : List Nat), reach st n todo acc = reach sh n todo acc := by
  intro n
  induction n with
  | zero => intro todo acc; cases todo <;> rfl
  | succ n ih =>
    intro todo acc
    cases todo with
    | nil => rfl
    | cons o r => simp only [reach, ih, refs_at hr o]
theorem closed_sh {st sh : List LObj} (hr : st.map LObj.refs = sh.map LObj.refs) (ids : List Nat) : closed st ids = closed sh ids := by
  have hl : st.length = sh.length := by have := congrArg List.length hr; simpa using this
  unfold closed
  rw [hl]
  congr 1
  funext o
  rw [refs_at hr o]
def gcSh (k : Nat) (vs : List LV) (st : List LObj) : Option (List LV × List Nat) :=
  let ids := gcIds k st (vs.flatMap LV.refs)
  if closed st ids && (vs.flatMap LV.refs).all (ids.contains ·) && decide ids.Nodup && decide (ids.take k = List.range k) then
    some (vs.map (LV.ren fun q => ids.idxOf q), ids)
  else none
theorem gc_sh {k : Nat} {vs vs' : List LV} {st sh st' : List LObj} {ids : List Nat} (hr : st.map LObj.refs = sh.map LObj.refs) (hc : gcSh k vs sh = some (vs', ids)) (hs : sub st ids = st') : gc k vs st = some (vs', st') := by
  have e : gcIds k st (vs.flatMap LV.refs) = gcIds k sh (vs.flatMap LV.refs) := by
    unfold gcIds
    rw [reach_sh hr]
    congr 2
    have : ∀ l : List LObj, l.flatMap LObj.refs = (l.map LObj.refs).flatten := fun l => by rw [List.flatMap_def]
    rw [this, this, List.map_take, List.map_take, hr]
  unfold gcSh at hc
  unfold gc
  simp only at hc ⊢
  rw [e, closed_sh hr]
  split at hc
  · rename_i h
    rw [if_pos h]
    simp only [Option.some.injEq, Prod.mk.injEq] at hc
    obtain ⟨rfl, h2⟩ := hc
    rw [← h2] at hs
    rw [hs]
  · cases hc
end Go.LS
set_option linter.unusedVariables false
set_option linter.unusedSimpArgs false
namespace Go.LS
def vcode (u : Nat) : List UInt8 := if u < 128 then [UInt8.ofNat u] else UInt8.ofNat (u % 128 + 128) :: vcode (u / 128)
termination_by u
decreasing_by omega
end Go.LS
namespace Go.LS
end Go.LS
namespace Go.LS
theorem wrap_i64 {n : Int} (h0 : -9223372036854775808 ≤ n) (h1 : n ≤ 9223372036854775807) : IntKind.wrap .i64 n = n := by
  simp only [IntKind.wrap, IntKind.bits, IntKind.signed]
  simp
  omega
end Go.LS
namespace Go.LS
end Go.LS
namespace Go.LS
end Go.LS
namespace Go.LS
theorem opIs_sliceStrT {M : List UInt8} {k : IntKind} {hi : Int} {st : List LObj} (h0 : 0 ≤ hi) (h : hi ≤ (M.length : Int)) :
    opStep noCall [] st (.sslice (.const (.p (.str M))) none (some (.const (.p (.int k hi)))) none) = some (.p (.str (M.take hi.toNat)), st) := by
  simp [opStep, LX.ev, lslice, bnd, h0, h]
theorem iteRP {lp : LProg} {f : FuncId} {args : List LV} {st : List LObj} {c : Prop} [Decidable c] {a b : LV × List LObj} (k : c) (h : Runs lp f args st a) : Runs lp f args st (if c then a else b) := by rwa [if_pos k]
theorem iteRN {lp : LProg} {f : FuncId} {args : List LV} {st : List LObj} {c : Prop} [Decidable c] {a b : LV × List LObj} (k : ¬ c) (h : Runs lp f args st b) : Runs lp f args st (if c then a else b) := by rwa [if_neg k]
theorem opIs_idxE {v : LV} {E : List (List PV)} {e : List PV} {z : Nat} {i : Nat} {st : List LObj} (hv : v.asSl = some E) (hr : v.isRs = false) (h : E[i]? = some e) (hz : e.length = z) :
    opStep noCall [] st (.indexAddr z (.const v) (.const (.p (.int .i64 ((i : Nat) : Int))))) = some (.pin e 0, st) := by
  have h0 : ¬ ((i : Int) < 0) := by omega
  cases v <;> simp only [LV.isRs, Bool.true_eq_false] at hr <;> simp only [LV.asSl] at hv <;> first | (cases hv; done) | skip
  all_goals simp [opStep, LX.ev, LV.asInt, LV.asSl, hv, h, h0, hz]
end Go.LS
set_option linter.unusedVariables false
set_option linter.unusedSimpArgs false
namespace Go.LS
theorem opIs_appTE {size bytes : Nat} {E X : List (List PV)} {st : List LObj} {x : LV} (hx : appended false st x = some X) (hE : sized size E = true) (hX : sized size X = true) (hne : X ≠ [])
    (hb : (E.length + X.length) * bytes ≤ 140737488355328) (hm : E.length + X.length ≤ 9223372036854775807) (h0 : 0 < size) :
    opStep noCall [] st (.append false size bytes (.const (.tight E)) (.const x)) = some (.sl (E ++ X) st.length (E ++ X).length, st ++ [.spare size (E ++ X).length]) := by
  have : X.isEmpty = false := by cases X <;> simp_all
  refine orA_of ?_
  simp [LX.ev, lappend, hx, hX, hE, this, roomy_of hb, maxLen, hm, h0]
theorem opIs_appSE {size bytes tg : Nat} {E X : List (List PV)} {st : List LObj} {x : LV} (hs : st[tg]? = some (.spare size E.length)) (hx : appended false st x = some X) (hX : sized size X = true)
    (hb : (E.length + X.length) * bytes ≤ 140737488355328) (hm : E.length + X.length ≤ 9223372036854775807) (h0 : 0 < size) :
    opStep noCall [] st (.append false size bytes (.const (.sl E tg E.length)) (.const x)) = some (.sl (E ++ X) tg (E ++ X).length, st.set tg (.spare size (E ++ X).length)) := by
  by_cases hM : X = []
  · subst hM
    refine orA_of ?_
    simp [LX.ev, lappend, hx, hX, hs]
    obtain ⟨h1, h2⟩ := List.getElem?_eq_some_iff.1 hs
    conv => rhs; rw [← h2]
    simp
  · have : X.isEmpty = false := by cases X <;> simp_all
    refine orA_of ?_
    simp [LX.ev, lappend, hx, hX, hs, this, roomy_of hb, maxLen, hm, h0, hM]
theorem opIs_sidxD {M : List UInt8} {i : Nat} {st : List LObj} (h : i < M.length) :
    opStep noCall [] st (.index (.const (.p (.str M))) (.const (.p (.int .i64 ((i : Nat) : Int))))) = some (.p (.int .u8 ((M.getD i 0).toNat : Int)), st) := by
  simp [opStep, LX.ev, LV.asInt, h]
end Go.LS
namespace Go.LS
theorem okArg {agg : Bool} {ts : List Cty} {r : List (Bool × List Cty)} {l : List LV} (h : OkArgs ((agg, ts) :: r) l) : ∃ ps m, l = argLV agg ps :: m ∧ okPVs ts ps ∧ OkArgs r m := h
theorem okEnd {l : List LV} (h : OkArgs [] l) : l = [] := h
theorem okSl {u : List Cty} {b : Nat} {ts : List Cty} {ps : List PV} (h : okPVs (.sl u b :: ts) ps) : ∃ n r, ps = .sl n :: r ∧ (n.length * b ≤ reachBytes ∧ n.length ≤ maxLen ∧ ∀ e ∈ n, okPVs u e) ∧ okPVs ts r := by
  obtain ⟨_, r, rfl, ⟨n, rfl, h1⟩, h2⟩ := h
  exact ⟨n, r, rfl, h1, h2⟩
theorem okNil {ps : List PV} (h : okPVs [] ps) : ps = [] := h
end Go.LS
set_option linter.unusedVariables false
namespace Go.LS
def foldE {α σ ρ : Type} (f : σ → α → ρ ⊕ σ) (e : σ → ρ) : σ → List α → ρ
  | s, [] => e s
  | s, x :: r => match f s x with
    | .inl y => y
    | .inr s' => foldE f e s' r
theorem drop_get {α : Type} {xs : List α} {i : Nat} {x : α} (h : xs[i]? = some x) : xs.drop i = x :: xs.drop (i + 1) := by
  obtain ⟨hi, rfl⟩ := List.getElem?_eq_some_iff.1 h
  exact List.drop_eq_getElem_cons hi
theorem loop_fold {α σ : Type} {lp : LProg} {k : Nat} {L : List Bool × LCode} (T : Nat → σ → List LV) (S : Nat → σ → List LObj) (xs : List α) (f : σ → α → (LOut × List LV × List LObj) ⊕ σ) (e : σ → LOut × List LV × List LObj) (Inv : Nat → σ → Prop)
    (hs : ∀ i s x, xs[i]? = some x → Inv i s → (∀ r, f s x = .inl r → LoopN lp k L (T i s) (S i s) r) ∧ ∀ s', f s x = .inr s' → Inv (i + 1) s' ∧ ∀ r, LoopN lp k L (T (i + 1) s') (S (i + 1) s') r → LoopN lp k L (T i s) (S i s) r)
    (he : ∀ s, Inv xs.length s → LoopN lp k L (T xs.length s) (S xs.length s) (e s)) (s0 : σ) (h0 : Inv 0 s0) : LoopN lp k L (T 0 s0) (S 0 s0) (foldE f e s0 xs) := by
  have key : ∀ n i s, n + i = xs.length → Inv i s → LoopN lp k L (T i s) (S i s) (foldE f e s (xs.drop i)) := by
    intro n
    induction n with
    | zero =>
      intro i s h hi
      obtain rfl : i = xs.length := by omega
      rw [List.drop_length]
      exact he s hi
    | succ n ih =>
      intro i s h hi
      have hx : xs[i]? = some (xs[i]'(by omega)) := List.getElem?_eq_getElem (by omega)
      rw [drop_get hx]
      obtain ⟨h1, h2⟩ := hs i s _ hx hi
      simp only [foldE]
      cases hf : f s (xs[i]'(by omega)) with
      | inl r => exact h1 r hf
      | inr s' =>
        obtain ⟨h3, h4⟩ := h2 s' hf
        exact h4 _ (ih (i + 1) s' (by omega) h3)
  have := key xs.length 0 s0 (by omega) h0
  rwa [List.drop_zero] at this
theorem loop_all {α : Type} {lp : LProg} {k : Nat} {L : List Bool × LCode} (T : Nat → List LV) (S : List LObj) (xs : List α) (p : α → Bool) {rF rT : LOut × List LV × List LObj}
    (hF : ∀ i x, xs[i]? = some x → p x = false → LoopN lp k L (T i) S rF) (hS : ∀ i x r, xs[i]? = some x → p x = true → LoopN lp k L (T (i + 1)) S r → LoopN lp k L (T i) S r)
    (hE : LoopN lp k L (T xs.length) S rT) : LoopN lp k L (T 0) S (if xs.all p = true then rT else rF) := by
  have := loop_fold (σ := Unit) (fun i _ => T i) (fun _ _ => S) xs (fun _ x => if p x = true then .inr () else .inl rF) (fun _ => rT) (fun _ _ => True)
    (fun i s x hx _ => by
      cases hp : p x with
      | true => simp only [if_true]; exact ⟨fun r h => (by cases h), fun s' _ => ⟨trivial, fun r hr => hS i x r hx hp hr⟩⟩
      | false => simp only [Bool.false_eq_true, if_false]; exact ⟨fun r h => (by cases h; exact hF i x hx hp), fun s' h => (by cases h)⟩)
    (fun _ _ => hE) () trivial
  have e : ∀ l : List α, foldE (fun (_ : Unit) x => if p x = true then (.inr () : (LOut × List LV × List LObj) ⊕ Unit) else .inl rF) (fun _ => rT) () l = if l.all p = true then rT else rF := by
    intro l
    induction l with
    | nil => rfl
    | cons x r ih =>
      have e1 : (x :: r).all p = (p x && r.all p) := rfl
      simp only [foldE, e1]
      by_cases hp : p x = true
      · simp only [hp, if_true, Bool.true_and]; exact ih
      · simp only [hp, Bool.false_and, Bool.false_eq_true, if_false]
  rw [e] at this
  exact this
theorem loop_each {α σ : Type} {lp : LProg} {k : Nat} {L : List Bool × LCode} (T : Nat → σ → List LV) (S : Nat → σ → List LObj) (xs : List α) (f : σ → α → σ) (e : σ → LOut × List LV × List LObj) (Inv : Nat → σ → Prop)
    (hS : ∀ i s x r, xs[i]? = some x → Inv i s → Inv (i + 1) (f s x) ∧ (LoopN lp k L (T (i + 1) (f s x)) (S (i + 1) (f s x)) r → LoopN lp k L (T i s) (S i s) r))
    (hE : ∀ s, Inv xs.length s → LoopN lp k L (T xs.length s) (S xs.length s) (e s)) (s0 : σ) (h0 : Inv 0 s0) : LoopN lp k L (T 0 s0) (S 0 s0) (e (xs.foldl f s0)) := by
  have := loop_fold T S xs (fun s x => .inr (f s x)) e Inv (fun i s x hx hi => ⟨fun r h => (by cases h), fun s' h => (by cases h; exact ⟨(hS i s x (e s) hx hi).1, fun r hr => (hS i s x r hx hi).2 hr⟩)⟩) hE s0 h0
  have e2 : ∀ (l : List α) s, foldE (fun s x => (.inr (f s x) : (LOut × List LV × List LObj) ⊕ σ)) e s l = e (l.foldl f s) := by
    intro l
    induction l with
    | nil => intro s; rfl
    | cons x r ih => intro s; simp only [foldE, List.foldl_cons]; exact ih _
  rw [e2] at this
  exact this
theorem LoopAt.onG {lp : LProg} {N k : Nat} {mask : List Bool} {c : LCode} {t t1 t2 t3 : List LV} {st st1 st3 : List LObj} {os os' : Os} {ps : List Prop} {r : LOut × List LV × List LObj}
    (h : execO lp k N c t st os = some (.normal, t1, st1, ps, os')) (hk : kill mask t1 = t2) (hg : gc k t2 st1 = some (t3, st3)) (hp : Conj ps) (hr : LoopAt lp k mask c t3 st3 r) : LoopAt lp k mask c t st r := by
  refine LoopAt.on (N := N) (os := os) (ps := ps) (t' := t3) (st' := st3) ?_ hp hr
  unfold roundO
  rw [h]
  simp only [hk, hg]
theorem nx {i : Nat} (h : i ≤ 1000000000000000) : IntKind.wrap .i64 ((i : Int) + 1) = ((i + 1 : Nat) : Int) := by
  rw [wrap_i64 (by omega) (by omega)]; rfl
end Go.LS
set_option linter.unusedVariables false
set_option linter.unusedSimpArgs false
namespace Go.LS
inductive Val where
  | mk (kind int : Int) (text : List UInt8) (items : List Val) (names : List (List UInt8))
  deriving Inhabited
def rowsN (ns : List (List UInt8)) : List (List PV) := ns.map fun x => [.str x]
mutual
def rowV : Val → List PV
  | .mk k n s is ns => [.int .i64 k, .int .i64 n, .str s, .sl (rowsV is), .sl (rowsN ns)]
def rowsV : List Val → List (List PV)
  | [] => []
  | v :: r => rowV v :: rowsV r
end
abbrev encV : Val → LV
  | .mk k n s is ns => .agg [.p (.int .i64 k), .p (.int .i64 n), .p (.str s), .p (.sl (rowsV is)), .p (.sl (rowsN ns))]
theorem rowsV_map : ∀ (l : List Val), rowsV l = l.map rowV
  | [] => rfl
  | v :: r => by rw [rowsV, rowsV_map r]; rfl
theorem rowsV_len (l : List Val) : (rowsV l).length = l.length := by rw [rowsV_map, List.length_map]
theorem rowsN_len (l : List (List UInt8)) : (rowsN l).length = l.length := by simp [rowsN]
theorem rowV_len : ∀ (v : Val), (rowV v).length = 5
  | .mk .. => rfl
theorem rowsV_get {l : List Val} {i : Nat} {v : Val} (h : l[i]? = some v) : (rowsV l)[i]? = some (rowV v) := by rw [rowsV_map, List.getElem?_map, h]; rfl
theorem rowsN_get {l : List (List UInt8)} {i : Nat} (h : i < l.length) : (rowsN l)[i]? = some [.str (l.getD i [])] := by
  simp [rowsN, h]
theorem Val.ind {P : Val → Prop} (h : ∀ k n s is ns, (∀ v ∈ is, P v) → P (.mk k n s is ns)) : ∀ v, P v
  | .mk k n s is ns => h k n s is ns fun v hv => Val.ind h v
def nameB (s : List UInt8) : Bool := !(s.contains 46) && decide (1 ≤ s.length) && decide (s.length ≤ 32) && !(s.headD 0 == 36)
def twiceB : List (List UInt8) → Bool
  | [] => false
  | x :: r => r.contains x || twiceB r
def shapeB (k n : Int) (s : List UInt8) (l : Nat) (ns : List (List UInt8)) : Bool :=
  if k == 1 then n == 0 && s == [] && decide (l = 0) && decide (ns.length = 0)
  else if k == 2 then (decide (0 ≤ n) && decide (n ≤ 1)) && s == [] && decide (l = 0) && decide (ns.length = 0)
  else if k == 3 then s == [] && decide (l = 0) && decide (ns.length = 0)
  else if k == 4 || k == 5 then n == 0 && decide (l = 0) && decide (ns.length = 0)
  else if k == 6 then n == 0 && s == [] && decide (ns.length = 0)
  else if k == 7 then n == 0 && s == [] && decide (ns.length = l) && !twiceB ns
  else false
def okNamesB (ns : List (List UInt8)) : Bool := ns.all nameB && !twiceB ns
mutual
def mayV : Val → Bool
  | .mk k n s is ns => mayL is && ns.all nameB && shapeB k n s is.length ns
def mayL : List Val → Bool
  | [] => true
  | v :: r => mayV v && mayL r
end
mutual
def depthV : Val → Int
  | .mk _ _ _ is _ => depthL is + 1
def depthL : List Val → Int
  | [] => 0
  | v :: r => max (depthV v) (depthL r)
end
theorem mayL_all : ∀ (l : List Val), mayL l = l.all mayV
  | [] => rfl
  | v :: r => by rw [mayL, mayL_all r]; rfl
def zzN (x : Int) : Nat := if 0 ≤ x then (2 * x).toNat else (-(2 * x) - 1).toNat
def clenN (n : Nat) : Int := ((vcode n).length : Int)
def tlenN (s : List UInt8) : Int := ((vcode s.length).length : Int) + s.length
mutual
def sizeV : Val → Int
  | .mk k n s is ns => if k == 2 then 2 else if k == 3 then 1 + ((vcode (zzN n)).length : Int) else if k == 4 || k == 5 then 1 + tlenN s
    else if k == 6 then 1 + clenN is.length + sizeL is else if k == 7 then 1 + clenN is.length + sizeL is + (ns.map tlenN).sum else 1
def sizeL : List Val → Int
  | [] => 0
  | v :: r => sizeV v + sizeL r
end
mutual
def nodesV : Int → Val → Int
  | d, .mk _ _ _ is ns => if d > 40 then 1048576 else nodesL (IntKind.wrap .i64 (d + 1)) (IntKind.wrap .i64 (1 + (ns.length : Int))) is
def nodesL : Int → Int → List Val → Int
  | _, m, [] => m
  | d, m, v :: r => if m < 65536 then nodesL d (IntKind.wrap .i64 (m + nodesV d v)) r else m
end
def largeV (v : Val) : Bool := decide (nodesV 0 v > 3000)
mutual
def sameV : Val → Val → Bool
  | .mk k n s is ns, .mk k' n' s' is' ns' => (k == k') && (n == n') && (s == s') && sameL is is' && (ns == ns')
def sameL : List Val → List Val → Bool
  | [], [] => true
  | v :: r, v' :: r' => sameV v v' && sameL r r'
  | _, _ => false
end
def ordI (a b : Int) : Int := if a < b then -1 else if a > b then 1 else 0
def ordS (a b : List UInt8) : Int := if Op.bytesLess a b = true then -1 else if (!(Op.bytesLess a b || a == b)) = true then 1 else 0
mutual
def cmpV : Val → Val → Int
  | .mk k n s is ns, .mk k' n' s' is' ns' => if ordI k k' ≠ 0 then ordI k k' else if ordI n n' ≠ 0 then ordI n n' else if ordS s s' ≠ 0 then ordS s s' else
    match cmpL (k == 7) is is' ns ns' with
    | some c => c
    | none => ordI is.length is'.length
def cmpL : Bool → List Val → List Val → List (List UInt8) → List (List UInt8) → Option Int
  | d, v :: r, w :: q, ns, ms => if d = true ∧ ordS (ns.headD []) (ms.headD []) ≠ 0 then some (ordS (ns.headD []) (ms.headD [])) else
    if cmpV v w ≠ 0 then some (cmpV v w) else cmpL d r q ns.tail ms.tail
  | _, _, _, _, _ => none
end
mutual
def okV : Val → Prop
  | .mk k n s is ns => (-9223372036854775808 ≤ k ∧ k ≤ 9223372036854775807) ∧ (-9223372036854775808 ≤ n ∧ n ≤ 9223372036854775807) ∧ s.length ≤ 140737488351232 ∧ is.length * 80 ≤ 140737488355328 ∧ ns.length * 16 ≤ 140737488355328 ∧ (∀ x ∈ ns, x.length ≤ 140737488351232) ∧ okL is
def okL : List Val → Prop
  | [] => True
  | v :: r => okV v ∧ okL r
end
theorem okL_all : ∀ {l : List Val}, okL l ↔ ∀ v ∈ l, okV v
  | [] => by simp [okL]
  | v :: r => by rw [okL, okL_all (l := r)]; simp
theorem okNames : ∀ {es : List (List PV)}, (∀ e ∈ es, okPVs [.str] e) → ∃ ns : List (List UInt8), es = rowsN ns ∧ ∀ x ∈ ns, x.length ≤ 140737488351232
  | [], _ => ⟨[], rfl, by simp⟩
  | e :: r, h => by
    obtain ⟨ns, rfl, hn⟩ := okNames (es := r) (fun x hx => h x (List.mem_cons_of_mem _ hx))
    obtain ⟨_, _, rfl, ⟨s, rfl, hs⟩, rfl⟩ := h e (List.mem_cons_self ..)
    refine ⟨s :: ns, rfl, fun x hx => ?_⟩
    rcases List.mem_cons.1 hx with rfl | hx
    · simp [reachBytes] at hs; omega
    · exact hn x hx
theorem okVal1 {Q : List PV → Prop} (hQ : ∀ {es : List (List PV)}, (∀ e ∈ es, Q e) → ∃ l : List Val, es = rowsV l ∧ okL l) {e : List PV}
    (h : okPVs [.int .i64, .int .i64, .str, .pr Q 80, .sl [.str] 16] e) : ∃ v : Val, e = rowV v ∧ okV v := by
  obtain ⟨_, _, rfl, ⟨a, rfl, a0, a1⟩, _, _, rfl, ⟨b, rfl, b0, b1⟩, _, _, rfl, ⟨s, rfl, hs⟩, _, _, rfl, ⟨es, rfl, e1, -, e3⟩, _, _, rfl, ⟨ns, rfl, n1, -, n3⟩, rfl⟩ := h
  obtain ⟨l, rfl, hl⟩ := hQ e3
  obtain ⟨m, rfl, hm⟩ := okNames n3
  refine ⟨.mk a b s l m, rfl, ⟨⟨a0, a1⟩, ⟨b0, b1⟩, ?_, ?_, ?_, hm, hl⟩⟩
  · simp [reachBytes] at hs; omega
  · rw [rowsV_len] at e1; simp [reachBytes] at e1; omega
  · rw [rowsN_len] at n1; simp [reachBytes] at n1; omega
theorem okVals {P : Program} {cut : List TypeId} {N : Nat} {T : TypeId} (hT : ∀ Q, tyT P cut Q N T = some [.int .i64, .int .i64, .str, .pr (Q T) 80, .sl [.str] 16]) :
    ∀ (k : Nat) {es : List (List PV)}, (∀ e ∈ es, RecOk P cut N k T e) → ∃ l : List Val, es = rowsV l ∧ okL l := by
  intro k
  induction k with
  | zero =>
    intro es h
    cases es with
    | nil => exact ⟨[], rfl, trivial⟩
    | cons e r => exact (h e (List.mem_cons_self ..)).elim
  | succ k ih =>
    intro es
    induction es with
    | nil => exact fun _ => ⟨[], rfl, trivial⟩
    | cons e r ihr =>
      intro h
      obtain ⟨l, rfl, hl⟩ := ihr fun x hx => h x (List.mem_cons_of_mem _ hx)
      obtain ⟨ts, h1, h2⟩ := h e (List.mem_cons_self ..)
      rw [hT] at h1
      cases h1
      obtain ⟨v, rfl, hv⟩ := okVal1 (fun h => ih h) h2
      exact ⟨v :: l, rfl, hv, hl⟩
theorem okValA {Q : List PV → Prop} (hQ : ∀ {es : List (List PV)}, (∀ e ∈ es, Q e) → ∃ l : List Val, es = rowsV l ∧ okL l) {e : List PV}
    (h : okPVs [.int .i64, .int .i64, .str, .pr Q 80, .sl [.str] 16] e) : ∃ v : Val, (.agg (e.map .p) : LV) = encV v ∧ okV v := by
  obtain ⟨v, rfl, hv⟩ := okVal1 hQ h
  exact ⟨v, by cases v; rfl, hv⟩
theorem rowsV_append (a b : List Val) : rowsV (a ++ b) = rowsV a ++ rowsV b := by simp [rowsV_map]
theorem rowsN_sized (l : List (List UInt8)) : sized 1 (rowsN l) = true := by
  simp only [sized, List.all_eq_true, rowsN, List.mem_map]
  rintro _ ⟨v, _, rfl⟩
  rfl
theorem opIs_appVS {tg : Nat} {es : List Val} {k n : Int} {s : List UInt8} {is : List Val} {ns : List (List UInt8)} {st : List LObj} (hs : st[tg]? = some (.spare 5 (List.length (rowsV es)))) (hb : (es.length + 1) * 80 ≤ 140737488355328) :
    opStep noCall [] st (.append false 5 80 (.const (.sl (rowsV es) tg (List.length (rowsV es)))) (.const (.tight [[.int .i64 k, .int .i64 n, .str s, .sl (rowsV is), .sl (rowsN ns)]]))) =
      some (.sl (rowsV (es ++ [.mk k n s is ns])) tg (List.length (rowsV (es ++ [.mk k n s is ns]))), st.set tg (.spare 5 (List.length (rowsV (es ++ [.mk k n s is ns]))))) := by
  have := opIs_appSE (size := 5) (bytes := 80) (tg := tg) (E := rowsV es) (X := [[.int .i64 k, .int .i64 n, .str s, .sl (rowsV is), .sl (rowsN ns)]]) (st := st) (x := .tight [[.int .i64 k, .int .i64 n, .str s, .sl (rowsV is), .sl (rowsN ns)]]) hs rfl rfl
    (by rw [rowsV_len]; exact hb) (by rw [rowsV_len]; simp; omega) (by decide)
  rw [this, rowsV_append]
  rfl
theorem opIs_appVT {k n : Int} {s : List UInt8} {is : List Val} {ns : List (List UInt8)} {st : List LObj} :
    opStep noCall [] st (.append false 5 80 (.const (.tight [])) (.const (.tight [[.int .i64 k, .int .i64 n, .str s, .sl (rowsV is), .sl (rowsN ns)]]))) =
      some (.sl (rowsV [.mk k n s is ns]) st.length (List.length (rowsV [.mk k n s is ns])), st ++ [.spare 5 (List.length (rowsV [.mk k n s is ns]))]) := by
  exact opIs_appTE (size := 5) (bytes := 80) (E := []) (X := [[.int .i64 k, .int .i64 n, .str s, .sl (rowsV is), .sl (rowsN ns)]]) (st := st) (x := .tight [[.int .i64 k, .int .i64 n, .str s, .sl (rowsV is), .sl (rowsN ns)]]) rfl rfl rfl (by simp) (by simp) (by simp) (by decide)
def seenM (ms : List (List UInt8)) : List (PV × LV) := ms.map fun x => (.str x, .p (.bool true))
theorem seenM_find (x : List UInt8) : ∀ (ms : List (List UInt8)), mfind (.str x) (seenM ms) = some (if ms.contains x then some (.p (.bool true)) else none)
  | [] => rfl
  | y :: r => by
    have ih := seenM_find x r
    rw [seenM] at ih
    simp only [seenM, List.map_cons, mfind, pvEq]
    by_cases h : x = y
    · subst h; simp
    · have h2 : (x == y) = false := by simpa using h
      rw [h2]
      simp only [ih, List.contains_cons, h2, Bool.false_or]
theorem seenM_set (x : List UInt8) : ∀ (ms : List (List UInt8)), ms.contains x = false → mset (.str x) (.p (.bool true)) (seenM ms) = some (seenM (ms ++ [x]))
  | [], _ => rfl
  | y :: r, h => by
    rw [List.contains_cons, Bool.or_eq_false_iff] at h
    have ih := seenM_set x r h.2
    rw [seenM] at ih
    simp only [seenM, List.map_cons, mset, pvEq, h.1, ih, List.cons_append]
theorem seenM_refs (ms : List (List UInt8)) : (LObj.map (seenM ms)).refs = [] := by
  simp only [LObj.refs, seenM, List.flatMap_map]
  induction ms with
  | nil => rfl
  | cons x r ih => simp [LV.refs]
theorem seenM_ren (r : Nat → Nat) (ms : List (List UInt8)) : LObj.ren r (.map (seenM ms)) = .map (seenM ms) := by
  simp [LObj.ren, seenM, LV.ren]
theorem gc_seen {ms : List (List UInt8)} {vs : List LV} (h1 : vs.flatMap LV.refs = [0]) (h2 : vs.map (LV.ren fun q => [0].idxOf q) = vs) : gc 0 vs [.map (seenM ms)] = some (vs, [.map (seenM ms)]) := by
  have hr : gcIds 0 [.map (seenM ms)] (vs.flatMap LV.refs) = [0] := by
    rw [h1]
    unfold gcIds
    rw [show (100000 : Nat) = 99998 + 1 + 1 from rfl]
    simp [reach, seenM_refs]
  unfold gc
  simp only [hr]
  rw [h1, h2]
  simp [closed, seenM_refs, sub, seenM_ren]
theorem opIs_seen {st : List LObj} {ms : List (List UInt8)} {x : List UInt8} {o : Nat} (h : st[o]? = some (.map (seenM ms))) :
    opStep noCall [] st (.lookup .str (.p (.bool false)) false (.const (.mp o)) (.const (.p (.str x)))) = some (.p (.bool (ms.contains x)), st) := by
  simp only [opStep, LX.ev, LV.toPV, KK.fits, mlook, h, seenM_find]
  cases ms.contains x <;> rfl
theorem opIs_see {st : List LObj} {ms : List (List UInt8)} {x : List UInt8} {o : Nat} (h : st[o]? = some (.map (seenM ms))) (hx : ms.contains x = false) :
    opStep noCall [] st (.mapUpdate .str (.const (.mp o)) (.const (.p (.str x))) (.const (.p (.bool true)))) = some (.tup [], st.set o (.map (seenM (ms ++ [x])))) := by
  simp only [opStep, LX.ev, LV.toPV, KK.fits, h, seenM_set x ms hx]
  rfl
end Go.LS
set_option linter.unusedVariables false
namespace Go.LS
def u8 (x : Int) : UInt8 := UInt8.ofNat (Int.toNat (IntKind.wrap .u8 x))
mutual
def encC : Val → List UInt8
  | .mk k n s is ns => u8 k :: (if k == 1 then [] else if k == 2 then [u8 n] else if k == 3 then vcode (zzN n) else if k == 4 || k == 5 then vcode s.length ++ s
    else vcode is.length ++ encL (k == 7) is ns)
def encL : Bool → List Val → List (List UInt8) → List UInt8
  | _, [], _ => []
  | d, v :: r, ns => (if d then vcode (ns.headD []).length ++ ns.headD [] else []) ++ encC v ++ encL d r ns.tail
end
theorem rowsN_append (a b : List (List UInt8)) : rowsN (a ++ b) = rowsN a ++ rowsN b := by simp [rowsN]
end Go.LS
set_option linter.unusedVariables false
namespace Go.LS
theorem rowsN_take (n : Nat) (ms : List (List UInt8)) : (rowsN ms).take n = rowsN (ms.take n) := by simp [rowsN, List.map_take]
end Go.LS
set_option linter.unusedVariables false
namespace Go.LS
end Go.LS
namespace Go.LS
theorem dlt {i n : Nat} (h : i < n) : decide ((i : Int) < ((n : Nat) : Int)) = true := decide_eq_true (by omega)
theorem dlt_n {n : Nat} : decide (((n : Nat) : Int) < ((n : Nat) : Int)) = false := decide_eq_false (by omega)
theorem ifE {lp : LProg} {f : FuncId} {a : List LV} {s : List LObj} {x y : LV × List LObj} (h : Runs lp f a s x) (e : x = y) : Runs lp f a s y := e ▸ h
end Go.LS
set_option linter.unusedVariables false
namespace Go.LS
def digsB : List UInt8 → Int → Option Int
  | [], n => some n
  | c :: r, n => if c.toNat < 48 || 57 < c.toNat then none else digsB r (10 * n + ((c.toNat : Int) - 48))
def idxB (s : List UInt8) : Option Int :=
  if s.length < 1 || 3 < s.length || (1 < s.length && (s.getD 0 0).toNat == 48) then none else digsB s 0
theorem decode_ascii4 {s : List UInt8} {i : Nat} (h : (s.getD i 0).toNat < 128) : Utf8.decode ⟨s.toArray⟩ i = ((s.getD i 0).toNat, 1) := by
  have e : (ByteArray.get! ⟨s.toArray⟩ (i + 0)) = s.getD i 0 := by
    show s.toArray[i]! = _
    simp [List.getD]
    rfl
  unfold Utf8.decode
  simp only [e]
  rw [if_pos h]
theorem decode_high4 {s : List UInt8} {i : Nat} (h : ¬ (s.getD i 0).toNat < 128) : 128 ≤ (Utf8.decode ⟨s.toArray⟩ i).1 := by
  have e : (ByteArray.get! ⟨s.toArray⟩ (i + 0)) = s.getD i 0 := by
    show s.toArray[i]! = _
    simp [List.getD]
    rfl
  unfold Utf8.decode
  simp only [e]
  rw [if_neg h]
  repeat' split
  all_goals simp_all [Utf8.runeError, Utf8.valid]
  all_goals omega
theorem ixW32 {n : Int} {c : UInt8} (h0 : 0 ≤ n) (h1 : n ≤ 99) (c0 : ¬ c.toNat < 48) (c1 : ¬ 57 < c.toNat) :
    IntKind.wrap .i64 (IntKind.wrap .i64 (10 * n) + IntKind.wrap .i64 (IntKind.wrap .i32 ((c.toNat : Int) - 48))) = 10 * n + ((c.toNat : Int) - 48) := by
  have e : IntKind.wrap .i32 ((c.toNat : Int) - 48) = (c.toNat : Int) - 48 := by
    simp only [IntKind.wrap, IntKind.bits, IntKind.signed]
    simp
    omega
  rw [e, wrap_i64 (n := (c.toNat : Int) - 48) (by omega) (by omega), wrap_i64 (n := 10 * n) (by omega) (by omega), wrap_i64 (by omega) (by omega)]
theorem ixW8 {n : Int} {c : UInt8} (h0 : 0 ≤ n) (h1 : n ≤ 99) (c0 : ¬ c.toNat < 48) (c1 : ¬ 57 < c.toNat) :
    IntKind.wrap .i64 (IntKind.wrap .i64 (10 * n) + IntKind.wrap .i64 (IntKind.wrap .u8 ((c.toNat : Int) - 48))) = 10 * n + ((c.toNat : Int) - 48) := by
  have e : IntKind.wrap .u8 ((c.toNat : Int) - 48) = (c.toNat : Int) - 48 := by
    simp only [IntKind.wrap, IntKind.bits, IntKind.signed]
    simp
    omega
  rw [e, wrap_i64 (n := (c.toNat : Int) - 48) (by omega) (by omega), wrap_i64 (n := 10 * n) (by omega) (by omega), wrap_i64 (by omega) (by omega)]
theorem opIs_nextE {s : List UInt8} {i : Nat} {st : List LObj} (hs : st[0]? = some (.siter s i)) (h : ¬ i < s.length) :
    opStep noCall [] st (.next (.const (.it 0))) = some (.tup [.p (.bool false)], st) := by
  simp only [opStep, LX.ev, hs, if_neg h]
theorem opIs_nextA {s : List UInt8} {i : Nat} {st : List LObj} (hs : st[0]? = some (.siter s i)) (h : i < s.length) (ha : (s.getD i 0).toNat < 128) :
    opStep noCall [] st (.next (.const (.it 0))) = some (.tup [.p (.bool true), .p (.int .i64 (i : Int)), .p (.int .i32 ((s.getD i 0).toNat : Int))], st.set 0 (.siter s (i + 1))) := by
  simp only [opStep, LX.ev, hs, if_pos h, decode_ascii4 ha]
theorem opIs_nextH {s : List UInt8} {i : Nat} {st : List LObj} (hs : st[0]? = some (.siter s i)) (h : i < s.length) :
    opStep noCall [] st (.next (.const (.it 0))) = some (.tup [.p (.bool true), .p (.int .i64 (i : Int)), .p (.int .i32 ((Utf8.decode ⟨s.toArray⟩ i).1 : Int))], st.set 0 (.siter s (i + (Utf8.decode ⟨s.toArray⟩ i).2))) := by
  simp only [opStep, LX.ev, hs, if_pos h]
end Go.LS
set_option linter.unusedVariables false
namespace Go.LS
def idxN (s : List UInt8) : List (List UInt8) → Int → Int
  | [], _ => -1
  | x :: r, i => if s == x then i else idxN s r (i + 1)
def placeV : Val → List UInt8 → Int
  | .mk k _ _ is ns, s => if k == 7 then idxN s ns 0 else if k == 6 then (if Option.getD (idxB s) (-1) < (is.length : Int) then Option.getD (idxB s) (-1) else -1) else -1
theorem idxN_none {s : List UInt8} : ∀ (l : List (List UInt8)) (i : Int), l.contains s = false → idxN s l i = -1
  | [], _, _ => rfl
  | x :: r, i, h => by
    simp only [List.contains_cons, Bool.or_eq_false_iff] at h
    rw [idxN, h.1]
    exact idxN_none r _ h.2
theorem opIs_idxZ {size : Nat} {es : List (List PV)} {e : List PV} {j : Int} {st : List LObj} (h0 : 0 ≤ j) (he : es[Int.toNat j]? = some e) (hz : e.length = size) :
    opStep noCall [] st (.indexAddr size (.const (.p (.sl es))) (.const (.p (.int .i64 j)))) = some (.pin e 0, st) := by
  have h1 : ¬ (j < 0) := by omega
  simp only [opStep, LX.ev, LV.asInt, if_neg h1, LV.asSl, he, hz, if_true]
def itemsV5 : Val → List Val | .mk _ _ _ is _ => is
def getV : List (List UInt8) → Val → Option Val
  | [], v => some v
  | s :: r, v => if placeV v s < 0 then none else match (itemsV5 v)[(placeV v s).toNat]? with
    | some x => getV r x
    | none => none
end Go.LS
namespace Go.LS
def kindV : Val → Int | .mk k _ _ _ _ => k
def zeroV : Val := .mk 0 0 [] [] []
end Go.LS
namespace Go.LS
def docV (v : Val) : Bool := kindV v == 7 && mayV v
end Go.LS
namespace Go.LS
def kV : Val → Int | .mk k _ _ _ _ => k
def nV : Val → Int | .mk _ n _ _ _ => n
def sV : Val → List UInt8 | .mk _ _ s _ _ => s
def iV : Val → List Val | .mk _ _ _ i _ => i
def mV : Val → List (List UInt8) | .mk _ _ _ _ m => m
def chkV (v : Val) (ps : List (List UInt8)) (p : Bool) : Int := if docV v = true then (if p = true then 0 else 40) else 20
end Go.LS
set_option linter.unusedVariables false
set_option linter.unusedSimpArgs false
namespace Go.LS
def rowS (es : List (List PV)) : List (List LV) := es.map fun e => e.map LV.p
theorem refs_p (e : List PV) : (e.map LV.p).flatMap LV.refs = [] := by
  induction e with
  | nil => rfl
  | cons a b ih => rw [List.map_cons, List.flatMap_cons, ih]; rfl
theorem rowS_refs (es : List (List PV)) : (LObj.row (rowS es)).refs = [] := by
  simp only [LObj.refs, rowS]
  induction es with
  | nil => rfl
  | cons e r ih => rw [List.map_cons, List.flatMap_cons, ih, refs_p]; rfl
theorem rowS_ren (es : List (List PV)) (f : Nat → Nat) : (LObj.row (rowS es)).ren f = .row (rowS es) := by
  simp only [LObj.ren, rowS, List.map_map]
  congr 1
  apply List.map_congr_left
  intro e _
  simp only [Function.comp, List.map_map]
  apply List.map_congr_left
  intro c _
  rfl
theorem rowS_len (es : List (List PV)) : (rowS es).length = es.length := by simp [rowS]
theorem rowS_get {es : List (List PV)} {i : Nat} {e : List PV} (h : es[i]? = some e) : (rowS es)[i]? = some (e.map .p) := by simp [rowS, h]
theorem toPVs_p (e : List PV) : toPVs (e.map LV.p) = some e := by
  induction e with
  | nil => rfl
  | cons a b ih => simp only [List.map_cons, toPVs, ih, LV.toPV]
theorem rowS_rowPV : ∀ (es : List (List PV)), rowPV (rowS es) = some es
  | [] => rfl
  | e :: r => by
    have := rowS_rowPV r
    simp only [rowS, List.map_cons] at this ⊢
    simp only [rowPV, toPVs_p, this]
theorem rowS_take (es : List (List PV)) (n : Nat) : (rowS es).take n = rowS (es.take n) := by simp [rowS]
theorem rowS_set (es : List (List PV)) (i : Nat) (e : List PV) : (rowS es).set i (e.map .p) = rowS (es.set i e) := by simp [rowS, List.map_set]
theorem sizedL_rowS {n : Nat} {es : List (List PV)} (h : sized n es = true) : sizedL n (rowS es) = true := by
  simp only [sizedL, rowS, sized, List.all_map] at h ⊢
  rw [List.all_eq_true] at h ⊢
  intro e he
  simpa using h e he
theorem opIs_idxRS {o n k size : Nat} {X : List (List PV)} {e : List PV} {st : List LObj} (hs : st[o]? = some (.row (rowS X))) (hk : k < n) (he : X[k]? = some e) (hz : e.length = size) {j : Int} (hj : j = (k : Int)) :
    opStep noCall [] st (.indexAddr size (.const (.rs o 0 n)) (.const (.p (.int .i64 j)))) = some (.ptr o k 0, st) := by
  subst hj
  have h1 : ¬ ((k : Int) < 0) := by omega
  have h2 : (k : Int) < (n : Int) := by omega
  simp only [opStep, LX.ev, LV.asInt, if_neg h1, if_pos h2, hs, Int.toNat_natCast, Nat.zero_add, rowS_get he, List.length_map, hz, if_true]
theorem opIs_sliceRS {o n k size : Nat} {X : List (List PV)} {e : List PV} {st : List LObj} (hs : st[o]? = some (.row (rowS X))) (hk : k ≤ X.length) (hn : n ≤ X.length) (he : X[0]? = some e) (hz : e.length = size) {j : Int} (hj : j = (k : Int)) :
    opStep noCall [] st (.slice size (.const (.rs o 0 n)) none (some (.const (.p (.int .i64 j)))) none) = some (.rs o 0 k, st) := by
  subst hj
  have h0 : 0 < X.length := (List.getElem?_eq_some_iff.1 he).1
  have h1 : 0 ≤ (k : Int) ∧ (k : Int) ≤ (((rowS X).length - 0 : Nat) : Int) := by rw [rowS_len]; omega
  have h2 : (0 : Int) ≤ 0 ∧ (0 : Int) ≤ (k : Int) := by omega
  have h3 : 0 < (rowS X).length - 0 ∧ 0 + n ≤ (rowS X).length := by rw [rowS_len]; omega
  simp only [opStep, LX.ev, rslice, bnd, Option.map_none, Option.map_some, hs]
  rw [if_pos h1]
  simp only [Int.toNat_natCast]
  rw [if_pos h3]
  simp only [rowS_get he, List.length_map, hz, if_true, Nat.add_zero, Nat.sub_zero]
theorem frz_row {o n : Nat} {X X' : List (List PV)} {st : List LObj} (hs : st[o]? = some (.row (rowS X))) (hn : n ≤ X.length) (hx : X.take n = X') : frz true st [.rs o 0 n] = ([.p (.sl X')], st.set o .dead) := by
  subst hx
  have e : ((rowS X).drop 0).take n = rowS (X.take n) := by rw [List.drop_zero, rowS_take]
  have hl : 0 + n ≤ (rowS X).length := by rw [rowS_len]; omega
  simp only [frz, frzL, frz1, frzC, hs, if_pos hl, e, rowS_rowPV]
theorem callAt_pure {lp : LProg} {f : FuncId} {args : List LV} {st st1 st' : List LObj} {r v : LV} (h : Runs lp f args [] (r, st1)) (hw : wk (lp.weak f) args = args) (h0 : args.flatMap LV.refs = []) (hr : args.map (LV.ren fun q => ([] : List Nat).idxOf q) = args)
    (hv : r.ren (back [] st.length) = v) (hs : st ++ st1.map (LObj.ren (back [] st.length)) = st') : CallAt lp f args st (v, st') := by
  have hk : callO lp f args st r st1 = some (v, st', Runs lp f args [] (r, st1)) := by
    unfold callO
    simp only [hw, h0]
    have e1 : reach st 100000 [] [] = [] := rfl
    rw [e1]
    simp only [hr]
    have e2 : sub st [] = [] := rfl
    have e3 : (closed st [] && ([] : List Nat).all (([] : List Nat).contains ·) && decide ([] : List Nat).Nodup) = true := rfl
    rw [if_pos e3, if_pos (show ([] : List Nat).length ≤ st1.length from Nat.zero_le _), e2, hv]
    simp only [List.length_nil, List.take_zero, List.map_nil, putBack, List.drop_zero]
    rw [hs]
  obtain ⟨n, hn⟩ := callO_sound hk h
  exact ⟨n, hn⟩
def oG {lp : LProg} {k : Nat} {x : List Bool × LCode} {t1 t t' : List LV} {st1 st st' : List LObj} {o : LOut} (_ : gc k t1 st1 = some (t, st)) (_ : LoopN lp k x t st (o, t', st')) : Orc := .lg o t' st' t st
def oA {lp : LProg} {f : FuncId} {args : List LV} {st st' : List LObj} {v : LV} (_ : CallAt lp f args st (v, st')) : Orc := .cg v st'
end Go.LS
namespace Go.LS
theorem frz_names {o : Nat} {xs : List (List UInt8)} {st : List LObj} (hs : st[o]? = some (.row (rowS (rowsN xs)))) : frz true st [.rs o 0 (List.length xs)] = ([.p (.sl (rowsN xs))], st.set o .dead) :=
  frz_row hs (by rw [rowsN_len]; exact Nat.le_refl _) (by rw [← rowsN_len xs]; exact List.take_length)
end Go.LS
namespace Go.LS
theorem opIs_appRT {size bytes : Nat} {X : List (List PV)} {st : List LObj} (hX : sized size X = true) (hne : X ≠ []) (hb : X.length * bytes ≤ 140737488355328) (hm : X.length ≤ maxLen) (h0 : 0 < size) :
    opStep noCall [] st (.appendR size bytes (.const (.tight [])) (.const (.p (.sl X)))) = some (.rs st.length 0 X.length, st ++ [.row (rowS X)]) := by
  have ha : appendedR st (.p (.sl X)) = some (rowS X) := rfl
  have hYe : (rowS X).isEmpty = false := by cases X with | nil => exact absurd rfl hne | cons a b => rfl
  have hc : roomy (rowS X).length bytes = true ∧ (rowS X).length ≤ maxLen ∧ 0 < size := ⟨by rw [rowS_len]; exact roomy_of hb, by rw [rowS_len]; exact hm, h0⟩
  simp only [opStep, LX.ev, rappend, ha, sizedL_rowS hX, Bool.not_true, Bool.false_eq_true, if_false, hYe]
  rw [if_pos hc, rowS_len]
def notRs : LV → Bool
  | .rs _ _ _ => false
  | _ => true
theorem frzC_plain (st : List LObj) (v : LV) (h : notRs v = true) : frzC st v = (v.weak1, st) := by cases v <;> first | rfl | simp [notRs] at h
theorem frzCs_plain : ∀ (st : List LObj) (a : List LV), a.all notRs = true → frzCs st a = (a.map LV.weak1, st)
  | st, [], _ => rfl
  | st, v :: r, h => by
    simp only [List.all_cons, Bool.and_eq_true] at h
    simp only [frzCs, frzC_plain st v h.1, frzCs_plain st r h.2, List.map_cons]
theorem frzCs_app (st : List LObj) : ∀ (a b : List LV), frzCs st (a ++ b) = ((frzCs st a).1 ++ (frzCs (frzCs st a).2 b).1, (frzCs (frzCs st a).2 b).2) := by
  intro a
  induction a generalizing st with
  | nil => intro b; rfl
  | cons v r ih => intro b; simp only [List.cons_append, frzCs, ih]
theorem frzC_names {o : Nat} {xs : List (List UInt8)} {st : List LObj} (hs : st[o]? = some (.row (rowS (rowsN xs)))) : frzC st (.rs o 0 (List.length xs)) = (.p (.sl (rowsN xs)), st.set o .dead) := by
  have h := frz_names hs
  simp only [frz, frzL, frz1] at h
  have h1 := congrArg Prod.fst h
  have h2 := congrArg Prod.snd h
  simp only [List.cons.injEq, and_true] at h1
  exact Prod.ext h1 h2
theorem frz_agg1 {o : Nat} {xs : List (List UInt8)} {st : List LObj} {a b : List LV} (ha : a.all notRs = true) (hb : b.all notRs = true) (hs : st[o]? = some (.row (rowS (rowsN xs)))) :
    frz true st [.agg (a ++ .rs o 0 (List.length xs) :: b)] = ([.agg (a.map LV.weak1 ++ .p (.sl (rowsN xs)) :: b.map LV.weak1)], st.set o .dead) := by
  have e : frzCs st (a ++ .rs o 0 (List.length xs) :: b) = (a.map LV.weak1 ++ .p (.sl (rowsN xs)) :: b.map LV.weak1, st.set o .dead) := by
    rw [frzCs_app, frzCs_plain st a ha]
    simp only [frzCs, frzC_names hs, frzCs_plain _ b hb]
  simp only [frz, frzL, frz1, e]
end Go.LS
set_option linter.unusedVariables false
set_option linter.unusedSimpArgs false
namespace Go.LS
theorem frzC_row {o n : Nat} {X : List (List PV)} {st : List LObj} (hs : st[o]? = some (.row (rowS X))) (hn : n = X.length) : frzC st (.rs o 0 n) = (.p (.sl X), st.set o .dead) := by
  subst hn
  have e : ((rowS X).drop 0).take X.length = rowS X := by rw [List.drop_zero, rowS_take, List.take_length]
  have hl : 0 + X.length ≤ (rowS X).length := by rw [rowS_len]; omega
  simp only [frzC, hs, if_pos hl, e, rowS_rowPV]
theorem frzC_rowT {o n : Nat} {X Y : List (List PV)} {st : List LObj} (hs : st[o]? = some (.row (rowS X))) (hn : n ≤ X.length) (hx : X.take n = Y) : frzC st (.rs o 0 n) = (.p (.sl Y), st.set o .dead) := by
  subst hx
  have e : ((rowS X).drop 0).take n = rowS (X.take n) := by rw [List.drop_zero, rowS_take]
  have hl : 0 + n ≤ (rowS X).length := by rw [rowS_len]; omega
  simp only [frzC, hs, if_pos hl, e, rowS_rowPV]
theorem frz_aggX {o n : Nat} {X : List (List PV)} {st : List LObj} {a b : List LV} (ha : a.all notRs = true) (hb : b.all notRs = true) (hs : st[o]? = some (.row (rowS X))) (hn : n = X.length) :
    frz true st [.agg (a ++ .rs o 0 n :: b)] = ([.agg (a.map LV.weak1 ++ .p (.sl X) :: b.map LV.weak1)], st.set o .dead) := by
  have e : frzCs st (a ++ .rs o 0 n :: b) = (a.map LV.weak1 ++ .p (.sl X) :: b.map LV.weak1, st.set o .dead) := by
    rw [frzCs_app, frzCs_plain st a ha]
    simp only [frzCs, frzC_row hs hn, frzCs_plain _ b hb]
  simp only [frz, frzL, frz1, e]
theorem callAt_sh {lp : LProg} {f : FuncId} {args args' : List LV} {st sh st1 st' sub' : List LObj} {r v : LV} {ids : List Nat} (hr : st.map LObj.refs = sh.map LObj.refs) (hw : wk (lp.weak f) args = args)
    (hi : reach sh 100000 (args.flatMap LV.refs) [] = ids) (hc : (closed sh ids && (args.flatMap LV.refs).all (ids.contains ·) && decide ids.Nodup) = true)
    (ha : args.map (LV.ren fun q => ids.idxOf q) = args') (hs : sub st ids = sub') (h : Runs lp f args' sub' (r, st1)) (hl : decide (ids.length ≤ st1.length) = true) (hv : r.ren (back ids st.length) = v)
    (hp : putBack st ids ((st1.take ids.length).map (LObj.ren (back ids st.length))) ++ (st1.drop ids.length).map (LObj.ren (back ids st.length)) = st') : CallAt lp f args st (v, st') := by
  obtain ⟨n, hn⟩ := Runs.at h
  refine ⟨n, fun m hm => ?_⟩
  unfold callIso
  simp only
  rw [runF_weak, hw, reach_sh hr, hi, closed_sh hr, if_pos hc, ha, hs, hn m hm]
  simp only
  rw [if_pos (of_decide_eq_true hl), hv, hp]
section
variable {o n size : Nat} {X : List (List PV)} {st : List LObj}
theorem opIs_sliceHi {k : Nat} {j : Int} {e : List PV} (hs : st[o]? = some (.row (rowS X))) (hk : k ≤ X.length) (hn : n ≤ X.length) (he : X[0]? = some e) (hz : e.length = size) (hj : j = (k : Int)) :
    opStep noCall [] st (.slice size (.const (.rs o 0 n)) none (some (.const (.p (.int .i64 j)))) none) = some (.rs o 0 k, st) := opIs_sliceRS hs hk hn he hz hj
theorem opIs_sliceLo {k : Nat} {j : Int} {e : List PV} (hs : st[o]? = some (.row (rowS X))) (hk : k < X.length) (hn : n = X.length) (he : X[0]? = some e) (hz : e.length = size) (hj : j = (k : Int)) :
    opStep noCall [] st (.slice size (.const (.rs o 0 n)) (some (.const (.p (.int .i64 j)))) none none) = some (.rs o k (n - k), st) := by
  subst hj hn
  have h1 : 0 ≤ (k : Int) ∧ (k : Int) ≤ (X.length : Int) := by omega
  have h3 : k < (rowS X).length - 0 ∧ 0 + X.length ≤ (rowS X).length := by rw [rowS_len]; omega
  simp only [opStep, LX.ev, rslice, bnd, Option.map_none, Option.map_some, hs]
  rw [if_pos h1]
  simp only [Int.toNat_natCast]
  rw [if_pos h3]
  simp only [rowS_get he, List.length_map, hz, if_true, Nat.zero_add]
theorem opIs_sliceLo0 {k : Nat} {j : Int} (hs : st[o]? = some (.row (rowS X))) (hk : k = X.length) (hn : n = X.length) (hj : j = (k : Int)) :
    opStep noCall [] st (.slice size (.const (.rs o 0 n)) (some (.const (.p (.int .i64 j)))) none none) = some (.p (.sl []), st) := by
  subst hj hn hk
  have h1 : 0 ≤ (X.length : Int) ∧ (X.length : Int) ≤ (X.length : Int) := by omega
  have h3 : ¬ (X.length < (rowS X).length - 0 ∧ 0 + X.length ≤ (rowS X).length) := by rw [rowS_len]; omega
  have h4 : X.length = (rowS X).length - 0 ∧ 0 + X.length ≤ (rowS X).length := by rw [rowS_len]; omega
  simp only [opStep, LX.ev, rslice, bnd, Option.map_none, Option.map_some, hs]
  rw [if_pos h1]
  simp only [Int.toNat_natCast]
  rw [if_neg h3, if_pos h4]
theorem opIs_sliceLH {k h : Nat} {j i : Int} {e : List PV} (hs : st[o]? = some (.row (rowS X))) (hk : k < X.length) (hkh : k ≤ h) (hh : h ≤ X.length) (hn : n ≤ X.length) (he : X[0]? = some e) (hz : e.length = size) (hj : j = (k : Int)) (hi : i = (h : Int)) :
    opStep noCall [] st (.slice size (.const (.rs o 0 n)) (some (.const (.p (.int .i64 j)))) (some (.const (.p (.int .i64 i)))) none) = some (.rs o k (h - k), st) := by
  subst hj hi
  have h0 : 0 ≤ (h : Int) ∧ (h : Int) ≤ (((rowS X).length - 0 : Nat) : Int) := by rw [rowS_len]; omega
  have h1 : 0 ≤ (k : Int) ∧ (k : Int) ≤ (h : Int) := by omega
  have h3 : k < (rowS X).length - 0 ∧ 0 + n ≤ (rowS X).length := by rw [rowS_len]; omega
  simp only [opStep, LX.ev, rslice, bnd, Option.map_none, Option.map_some, hs]
  rw [if_pos h0]
  simp only [Int.toNat_natCast]
  rw [if_pos h1]
  simp only
  rw [if_pos h3]
  simp only [rowS_get he, List.length_map, hz, if_true, Nat.zero_add]
theorem opIs_slice3 {k h m : Nat} {j i l : Int} (hs : st[o]? = some (.row (rowS X))) (hkh : k ≤ h) (hh : h ≤ m) (hm : m ≤ X.length) (hkm : k < m) (hn : n ≤ X.length) (hj : j = (k : Int)) (hi : i = (h : Int)) (hl : l = (m : Int)) :
    opStep noCall [] st (.slice size (.const (.rs o 0 n)) (some (.const (.p (.int .i64 j)))) (some (.const (.p (.int .i64 i)))) (some (.const (.p (.int .i64 l))))) = some (.und, st) := by
  subst hj hi hl
  have h9 : 0 ≤ (m : Int) ∧ (m : Int) ≤ (((rowS X).length - 0 : Nat) : Int) := by rw [rowS_len]; omega
  have h0 : 0 ≤ (h : Int) ∧ (h : Int) ≤ (m : Int) := by omega
  have h1 : 0 ≤ (k : Int) ∧ (k : Int) ≤ (h : Int) := by omega
  have h3 : ¬ ((some (LV.p (.int .i64 (h : Int)))).isNone = true ∨ ¬ 0 + n ≤ (rowS X).length) := by rw [rowS_len]; simp; omega
  have h4 : ¬ m = k := by omega
  simp only [opStep, LX.ev, rslice, bnd, Option.map_none, Option.map_some, hs]
  rw [if_neg h3, if_pos h9]
  simp only [Int.toNat_natCast]
  rw [if_pos h0]
  simp only
  rw [if_pos h1]
  simp only
  rw [if_neg h4]
theorem opIs_appIn {bytes k j m : Nat} (hs : st[o]? = some (.row (rowS X))) (hk : k < X.length) (hj : j + m = X.length) (hm : 0 < m) (hkj : k + m ≤ X.length) (hX : sized size X = true) (h0 : 0 < size) :
    opStep noCall [] st (.append false size bytes (.const (.rs o 0 k)) (.const (.rs o j m))) = some (.rs o 0 (k + m), st.set o (.row (rowS (X.take k ++ X.drop j ++ X.drop (k + m))))) := by
  have e1 : (rowS X).drop j = rowS (X.drop j) := by simp [rowS]
  have e2 : (rowS (X.drop j)).take m = rowS (X.drop j) := by rw [rowS_take, List.take_of_length_le (by rw [List.length_drop]; omega)]
  have ha : appendedR st (.rs o j m) = some (rowS (X.drop j)) := by
    simp only [appendedR, hs]
    rw [if_pos (by rw [rowS_len]; omega), e1, e2]
  have hl : (rowS (X.drop j)).length = m := by rw [rowS_len, List.length_drop]; omega
  have hz : sizedL size (rowS (X.drop j)) = true := by
    have := sizedL_rowS hX
    unfold sizedL at this ⊢
    rw [List.all_eq_true] at this ⊢
    intro e he
    rw [← e1] at he
    exact this e (List.mem_of_mem_drop he)
  have hne : (rowS (X.drop j)).isEmpty = false := by
    cases hq : rowS (X.drop j) with
    | nil => rw [hq] at hl; simp at hl; omega
    | cons a b => rfl
  have h1 : ¬ (k = (rowS X).length ∧ 0 < k ∧ sizedL size (rowS X) = true ∧ roomy (k + m) bytes = true ∧ k + m ≤ maxLen ∧ 0 < size) := by rw [rowS_len]; omega
  have h2 : k + m ≤ (rowS X).length ∧ sizedL size (rowS X) = true ∧ 0 < size := ⟨by rw [rowS_len]; omega, sizedL_rowS hX, h0⟩
  have e3 : (rowS X).take k ++ rowS (X.drop j) ++ (rowS X).drop (k + m) = rowS (X.take k ++ X.drop j ++ X.drop (k + m)) := by simp [rowS]
  have hla : lappend false size bytes st (.rs o 0 k) (.rs o j m) = none := by simp only [lappend]; split <;> (try split) <;> rfl
  simp only [opStep, LX.ev, hla, orA_none, rappend, ha, hz, Bool.not_true, Bool.false_eq_true, if_false, hs, hne, hl]
  rw [if_neg h1, if_pos h2, e3]
theorem opIs_appIn0 {bytes k : Nat} (hs : st[o]? = some (.row (rowS X))) :
    opStep noCall [] st (.append false size bytes (.const (.rs o 0 k)) (.const (.p (.sl [])))) = some (.rs o 0 k, st) := by
  have hla : lappend false size bytes st (.rs o 0 k) (.p (.sl [])) = none := by simp only [lappend]; split <;> (try split) <;> rfl
  have ha : appendedR st (.p (.sl [])) = some [] := rfl
  simp only [opStep, LX.ev, hla, orA_none, rappend, ha, sizedL, List.all_nil, Bool.not_true, Bool.false_eq_true, if_false, hs, List.isEmpty_nil, if_true]
theorem opIs_clear {z : List PV} {z' : List LV} {k m : Nat} (hz' : z' = z.map .p) (hs : st[o]? = some (.row (rowS X))) (hk : k + m = X.length) (hm : 0 < m) (hX : sized size X = true) (hz : z.length = size) (h0 : 0 < size) :
    opStep noCall [] st (.clearS z' (.const (.rs o k m))) = some (.tup [], st.set o (.row (rowS (X.take k ++ List.replicate m z)))) := by
  subst hz'
  have h1 : ¬ m = 0 := by omega
  have h2 : k + m ≤ (rowS X).length ∧ (rowS X).all (fun e => e.length == (z.map LV.p).length) = true ∧ 0 < (z.map LV.p).length := by
    refine ⟨by rw [rowS_len]; omega, ?_, by simp; omega⟩
    have := sizedL_rowS hX
    simpa [sizedL, hz] using this
  have e3 : (rowS X).take k ++ List.replicate m (z.map LV.p) ++ (rowS X).drop (k + m) = rowS (X.take k ++ List.replicate m z) := by
    rw [hk, ← rowS_len X, List.drop_length]
    simp [rowS]
  simp only [opStep, LX.ev]
  rw [if_neg h1, hs]
  simp only
  rw [if_pos h2, e3]
end
theorem rowsV_take (a : List Val) (n : Nat) : rowsV (a.take n) = (rowsV a).take n := by rw [rowsV_map, rowsV_map, List.map_take]
theorem rowsV_drop (a : List Val) (n : Nat) : rowsV (a.drop n) = (rowsV a).drop n := by rw [rowsV_map, rowsV_map, List.map_drop]
theorem rowsV_set (a : List Val) (i : Nat) (v : Val) : (rowsV a).set i (rowV v) = rowsV (a.set i v) := by rw [rowsV_map, rowsV_map, List.map_set]
theorem rowsV_all5 (a : List Val) : sized 5 (rowsV a) = true := by
  unfold sized
  rw [List.all_eq_true]
  intro e he
  rw [rowsV_map] at he
  obtain ⟨v, _, rfl⟩ := List.mem_map.1 he
  rw [rowV_len]; rfl
theorem opIs_idxVO {o n k : Nat} {is : List Val} {st : List LObj} (hs : st[o]? = some (.row (rowS (rowsV is)))) (hk : k < n) (he : k < is.length) {j : Int} (hj : j = (k : Int)) :
    opStep noCall [] st (.indexAddr 5 (.const (.rs o 0 n)) (.const (.p (.int .i64 j)))) = some (.ptr o k 0, st) :=
  opIs_idxRS hs hk (rowsV_get (List.getElem?_eq_getElem he)) (rowV_len _) hj
theorem opIs_stVO {o i : Nat} {k n : Int} {s : List UInt8} {is : List Val} {ns : List (List UInt8)} {xs : List Val} {st : List LObj} (hs : st[o]? = some (.row (rowS (rowsV xs)))) (he : i < xs.length) :
    opStep noCall [] st (.store 5 (.const (.ptr o i 0)) (.const (.agg [.p (.int .i64 k), .p (.int .i64 n), .p (.str s), .p (.sl (rowsV is)), .p (.sl (rowsN ns))]))) = some (.tup [], st.set o (.row (rowS (rowsV (xs.set i (.mk k n s is ns)))))) := by
  have e := rowS_set (rowsV xs) i (rowV (.mk k n s is ns))
  rw [rowsV_set] at e
  have hl : ((rowV xs[i]).map LV.p).length = 5 := by rw [List.length_map, rowV_len]
  simp only [opStep, LX.ev, LV.cells?, LV.stAt, hs, rowS_get (rowsV_get (List.getElem?_eq_getElem he)), List.length_cons, List.length_nil, if_true, Nat.zero_add]
  rw [if_pos (by rw [hl]; decide)]
  simp only [List.take_zero, List.nil_append]
  rw [← e]
  have e2 : List.drop 5 ((rowV xs[i]).map LV.p) = [] := List.drop_eq_nil_of_le (by rw [hl]; decide)
  simp [rowV, e2]
theorem opIs_appVX {is : List Val} {st : List LObj} (hne : is ≠ []) (hb : is.length * 80 ≤ 140737488355328) :
    opStep noCall [] st (.appendR 5 80 (.const (.tight [])) (.const (.p (.sl (rowsV is))))) = some (.rs st.length 0 is.length, st ++ [.row (rowS (rowsV is))]) := by
  have := opIs_appRT (size := 5) (bytes := 80) (X := rowsV is) (st := st) (rowsV_all5 is) (by cases is <;> simp_all [rowsV]) (by rw [rowsV_len]; exact hb) (by rw [rowsV_len]; simp [maxLen]; omega) (by decide)
  rw [rowsV_len] at this
  exact this
end Go.LS
set_option linter.unusedVariables false
set_option linter.unusedSimpArgs false
namespace Go.LS
theorem opIs_clip {size : Nat} {E : List (List PV)} {st : List LObj} (hE : sized size E = true) :
    opStep noCall [] st (.slice size (.const (.p (.sl E))) none (some (.const (.p (.int .i64 ((E.length : Nat) : Int))))) (some (.const (.p (.int .i64 ((E.length : Nat) : Int)))))) = some (.tight E, st) := by
  have hall : (E.all fun e => e.length == size) = true := hE
  simp [opStep, LX.ev, rslice, LV.asSl, hall, lslice, bnd]
theorem opIs_takeE {size n : Nat} {E : List (List PV)} {j : Int} {st : List LObj} (hE : sized size E = true) (h : n ≤ E.length) (hj : j = (n : Int)) :
    opStep noCall [] st (.slice size (.const (.p (.sl E))) none (some (.const (.p (.int .i64 j)))) none) = some (.p (.sl (E.take n)), st) := by
  subst hj
  have hall : (E.all fun e => e.length == size) = true := hE
  have e1 : rslice size st (.p (.sl E)) none (some (.p (.int .i64 (n : Int)))) none = some (.p (.sl (E.take n))) := by
    simp only [rslice, LV.asSl, hall, if_true, lslice, bnd, Option.isSome_none, Bool.false_eq_true, false_and, if_false, Option.isNone_some]
    rw [if_pos (by omega)]
    simp only [Int.toNat_natCast, List.drop_zero, Option.isNone_none, true_and]
    by_cases hn : n = E.length ∧ 0 < E.length
    · rw [if_pos hn, hn.1, List.take_length]
    · rw [if_neg hn]
  simp only [opStep, LX.ev, Option.map_none, Option.map_some, e1]
theorem opIs_dropE {size n : Nat} {E : List (List PV)} {j : Int} {st : List LObj} (hE : sized size E = true) (h : n ≤ E.length) (hj : j = (n : Int)) :
    opStep noCall [] st (.slice size (.const (.p (.sl E))) (some (.const (.p (.int .i64 j)))) none none) = some (.p (.sl (E.drop n)), st) := by
  subst hj
  have hall : (E.all fun e => e.length == size) = true := hE
  have e1 : rslice size st (.p (.sl E)) (some (.p (.int .i64 (n : Int)))) none none = some (.p (.sl (E.drop n))) := by
    simp only [rslice, LV.asSl, hall, if_true, lslice, bnd, Option.isSome_none, Bool.false_eq_true, false_and, if_false, Option.isNone_none, true_and]
    rw [if_pos (by omega)]
    simp only [Int.toNat_natCast, List.take_length]
    by_cases hn : n < E.length
    · rw [if_pos hn]
    · rw [if_neg hn]
  simp only [opStep, LX.ev, Option.map_none, Option.map_some, e1]
theorem opIs_takeV {n : Nat} {is : List Val} {j : Int} {st : List LObj} (h : n ≤ is.length) (hj : j = (n : Int)) :
    opStep noCall [] st (.slice 5 (.const (.p (.sl (rowsV is)))) none (some (.const (.p (.int .i64 j)))) none) = some (.p (.sl (rowsV (is.take n))), st) := by
  rw [rowsV_take]; exact opIs_takeE (rowsV_all5 is) (by rw [rowsV_len]; exact h) hj
theorem rowsN_drop (n : Nat) (ms : List (List UInt8)) : (rowsN ms).drop n = rowsN (ms.drop n) := by simp [rowsN, List.map_drop]
theorem opIs_dropN {n : Nat} {ns : List (List UInt8)} {j : Int} {st : List LObj} (h : n ≤ ns.length) (hj : j = (n : Int)) :
    opStep noCall [] st (.slice 1 (.const (.p (.sl (rowsN ns)))) (some (.const (.p (.int .i64 j)))) none none) = some (.p (.sl (rowsN (ns.drop n))), st) := by
  rw [← rowsN_drop]; exact opIs_dropE (rowsN_sized ns) (by rw [rowsN_len]; exact h) hj
theorem opIs_tailN {p : List UInt8} {r : List (List UInt8)} {st : List LObj} :
    opStep noCall [] st (.slice 1 (.const (.p (.sl (rowsN (p :: r))))) (some (.const (.p (.int .i64 1)))) none none) = some (.p (.sl (rowsN r)), st) :=
  opIs_dropN (ns := p :: r) (n := 1) (by simp) rfl
theorem lenN0 {p : List UInt8} {r : List (List UInt8)} : (((List.length (rowsN (p :: r)) : Nat) : Int) == 0) = false := by
  rw [rowsN_len, beq_eq_false_iff_ne]; simp only [List.length_cons]; omega
theorem opIs_idxP0 {p : List UInt8} {r : List (List UInt8)} {st : List LObj} :
    opStep noCall [] st (.indexAddr 1 (.const (.p (.sl (rowsN (p :: r))))) (.const (.p (.int .i64 0)))) = some (.pin [.str p] 0, st) := rfl
theorem opIs_appVC {is : List Val} {k n : Int} {s : List UInt8} {js : List Val} {ns : List (List UInt8)} {st : List LObj} (hb : (is.length + 1) * 80 ≤ 140737488355328) :
    opStep noCall [] st (.append false 5 80 (.const (.tight (rowsV is))) (.const (.tight [[.int .i64 k, .int .i64 n, .str s, .sl (rowsV js), .sl (rowsN ns)]]))) =
      some (.sl (rowsV (is ++ [Val.mk k n s js ns])) st.length (List.length (rowsV (is ++ [Val.mk k n s js ns]))), st ++ [.spare 5 (List.length (rowsV (is ++ [Val.mk k n s js ns])))]) := by
  have := opIs_appTE (size := 5) (bytes := 80) (E := rowsV is) (X := [rowV (.mk k n s js ns)]) (st := st) (x := .tight [rowV (.mk k n s js ns)]) rfl (rowsV_all5 is) rfl (by simp) (by rw [rowsV_len]; simpa using hb) (by rw [rowsV_len]; simp; omega) (by decide)
  have e : rowsV (is ++ [Val.mk k n s js ns]) = rowsV is ++ [rowV (.mk k n s js ns)] := by rw [rowsV_append]; rfl
  rw [e]
  exact this
theorem opIs_appNC {ns : List (List UInt8)} {s : List UInt8} {st : List LObj} (hb : (ns.length + 1) * 16 ≤ 140737488355328) :
    opStep noCall [] st (.append false 1 16 (.const (.tight (rowsN ns))) (.const (.tight [[.str s]]))) =
      some (.sl (rowsN (ns ++ [s])) st.length (List.length (rowsN (ns ++ [s]))), st ++ [.spare 1 (List.length (rowsN (ns ++ [s])))]) := by
  have := opIs_appTE (size := 1) (bytes := 16) (E := rowsN ns) (X := [[.str s]]) (st := st) (x := .tight [[.str s]]) rfl (rowsN_sized ns) rfl (by simp) (by rw [rowsN_len]; simpa using hb) (by rw [rowsN_len]; simp; omega) (by decide)
  have e : rowsN (ns ++ [s]) = rowsN ns ++ [[.str s]] := by simp [rowsN]
  rw [e]
  exact this
def rowSZ (es : List (List PV)) : List (List LV) := rowS es ++ [[.p (.int .i64 0), .p (.int .i64 0), .p (.str []), .tight [], .tight []]]
theorem rowSZ_refs (es : List (List PV)) : (LObj.row (rowSZ es)).refs = [] := by
  have := rowS_refs es
  simp only [LObj.refs, rowSZ, List.flatMap_append] at this ⊢
  rw [this]; rfl
theorem rowSZ_ren (es : List (List PV)) (f : Nat → Nat) : (LObj.row (rowSZ es)).ren f = .row (rowSZ es) := by
  have := rowS_ren es f
  simp only [LObj.ren, rowSZ, List.map_append, LObj.row.injEq] at this ⊢
  rw [this]; rfl
theorem frzC_rowZ {o n : Nat} {X : List (List PV)} {st : List LObj} (hs : st[o]? = some (.row (rowSZ X))) (hn : n = X.length) : frzC st (.rs o 0 n) = (.p (.sl X), st.set o .dead) := by
  subst hn
  have e : ((rowSZ X).drop 0).take X.length = rowS X := by rw [List.drop_zero, rowSZ, List.take_append_of_le_length (by rw [rowS_len]; exact Nat.le_refl _), ← rowS_len X, List.take_length]
  have hl : 0 + X.length ≤ (rowSZ X).length := by rw [rowSZ, List.length_append, rowS_len]; omega
  simp only [frzC, hs, if_pos hl, e, rowS_rowPV]
theorem opIs_clearV {o k : Nat} {X : List (List PV)} {st : List LObj} (hs : st[o]? = some (.row (rowS X))) (hk : k + 1 = X.length) (hX : sized 5 X = true) :
    opStep noCall [] st (.clearS [.p (.int .i64 0), .p (.int .i64 0), .p (.str []), .tight [], .tight []] (.const (.rs o k 1))) = some (.tup [], st.set o (.row (rowSZ (X.take k)))) := by
  have h2 : k + 1 ≤ (rowS X).length ∧ (rowS X).all (fun e => e.length == 5) = true ∧ 0 < 5 := by
    refine ⟨by rw [rowS_len]; omega, ?_, by decide⟩
    have := sizedL_rowS hX
    simpa [sizedL] using this
  have e3 : (rowS X).take k ++ List.replicate 1 [.p (.int .i64 0), .p (.int .i64 0), .p (.str []), .tight [], .tight []] ++ (rowS X).drop (k + 1) = rowSZ (X.take k) := by
    rw [hk, ← rowS_len X, List.drop_length, List.append_nil, rowS_take]
    rfl
  simp only [opStep, LX.ev]
  rw [if_neg (by decide), hs]
  simp only [List.length_cons, List.length_nil]
  rw [if_pos h2, e3]
theorem opIs_clearN {o k : Nat} {ns : List (List UInt8)} {st : List LObj} (hs : st[o]? = some (.row (rowS (rowsN ns)))) (hk : k + 1 = ns.length) :
    opStep noCall [] st (.clearS [.p (.str [])] (.const (.rs o k 1))) = some (.tup [], st.set o (.row (rowS (rowsN (ns.take k ++ [[]]))))) := by
  have h := opIs_clear (size := 1) (z := [PV.str []]) (z' := [.p (.str [])]) (k := k) (m := 1) rfl hs (by rw [rowsN_len]; exact hk) (by decide) (rowsN_sized _) rfl (by decide)
  rw [h, rowsN_append, ← rowsN_take]
  rfl
theorem frz_aggZ2 {o n o' n' : Nat} {X Y Y' : List (List PV)} {st : List LObj} {a b : List LV} (ha : a.all notRs = true) (hb : b.all notRs = true) (hs : st[o]? = some (.row (rowSZ X))) (hn : n = X.length)
    (hs' : (st.set o .dead)[o']? = some (.row (rowS Y))) (hn' : n' ≤ Y.length) (hY : Y.take n' = Y') :
    frz true st [.agg (a ++ .rs o 0 n :: .rs o' 0 n' :: b)] = ([.agg (a.map LV.weak1 ++ .p (.sl X) :: .p (.sl Y') :: b.map LV.weak1)], (st.set o .dead).set o' .dead) := by
  have e : frzCs st (a ++ .rs o 0 n :: .rs o' 0 n' :: b) = (a.map LV.weak1 ++ .p (.sl X) :: .p (.sl Y') :: b.map LV.weak1, (st.set o .dead).set o' .dead) := by
    rw [frzCs_app, frzCs_plain st a ha]
    simp only [frzCs, frzC_rowZ hs hn, frzC_rowT hs' hn' hY, frzCs_plain _ b hb]
  simp only [frz, frzL, frz1, e]
def swapV : Val → Nat → Val → Val
  | .mk k n s is ns, i, x => .mk k n s (is.set i x) ns
def growV : Val → List UInt8 → Val → Val
  | .mk k n s is ns, p, x => .mk k n s (is ++ [x]) (if k == 7 then ns ++ [p] else ns)
def docV0 : Val := .mk 7 0 [] [] []
def nullV : Val := .mk 1 0 [] [] []
def setV : List (List UInt8) → Val → Val → Val × Bool
  | [], _, x => (x, true)
  | p :: r, v, x => if placeV v p ≥ 0 then (match (iV v)[(placeV v p).toNat]? with
      | some y => (swapV v (placeV v p).toNat (setV r y x).1, (setV r y x).2)
      | none => (v, false))
    else if kV v == 7 then (growV v p (setV r docV0 x).1, (setV r docV0 x).2)
    else if kV v == 6 then (growV v [] x, (idxB p).isSome && Option.getD (idxB p) 0 == ((iV v).length : Int) && r.isEmpty)
    else (v, false)
def withoutV : Val → Nat → Val
  | .mk k n s is ns, i => if k == 6 then .mk k n s (is.set i nullV) ns else .mk k n s (is.eraseIdx i) (ns.eraseIdx i)
def cutV (n : Int) : Val → Nat → Val
  | .mk k m s is ns, i => match is[i]? with
    | some (.mk k' m' s' is' ns') => if k' == 6 && decide ((is'.length : Int) > n) then .mk k m s (is.set i (.mk k' m' s' (is'.take n.toNat) ns')) ns else .mk k m s is ns
    | none => .mk k m s is ns
def atV (f : Val → Nat → Val) : List (List UInt8) → Val → Val
  | [], v => v
  | p :: r, v => if placeV v p < 0 then v else
    match r with
    | [] => f v (placeV v p).toNat
    | _ :: _ => match (iV v)[(placeV v p).toNat]? with
      | some y => swapV v (placeV v p).toNat (atV f r y)
      | none => v
end Go.LS
set_option linter.unusedVariables false
set_option linter.unusedSimpArgs false
namespace Go.LS
mutual
def okW (B : Nat) : Val → Prop
  | .mk k n s is ns => (-9223372036854775808 ≤ k ∧ k ≤ 9223372036854775807) ∧ (-9223372036854775808 ≤ n ∧ n ≤ 9223372036854775807) ∧ s.length ≤ 140737488351232 ∧ is.length ≤ B ∧ ns.length ≤ B ∧ (∀ x ∈ ns, x.length ≤ 140737488351232) ∧ okWL B is
def okWL (B : Nat) : List Val → Prop
  | [] => True
  | v :: r => okW B v ∧ okWL B r
end
theorem okWL_all {B : Nat} : ∀ {l : List Val}, okWL B l ↔ ∀ v ∈ l, okW B v
  | [] => by simp [okWL]
  | v :: r => by rw [okWL, okWL_all (l := r)]; simp
theorem okW_inv {B : Nat} {k n : Int} {s : List UInt8} {is : List Val} {ns : List (List UInt8)} (h : okW B (.mk k n s is ns)) : (-9223372036854775808 ≤ k ∧ k ≤ 9223372036854775807) ∧ (-9223372036854775808 ≤ n ∧ n ≤ 9223372036854775807) ∧ s.length ≤ 140737488351232 ∧ is.length ≤ B ∧ ns.length ≤ B ∧ (∀ x ∈ ns, x.length ≤ 140737488351232) ∧ ∀ v ∈ is, okW B v := by
  rw [okW, okWL_all] at h; exact h
theorem okW_mk {B : Nat} {k n : Int} {s : List UInt8} {is : List Val} {ns : List (List UInt8)} (h : (-9223372036854775808 ≤ k ∧ k ≤ 9223372036854775807) ∧ (-9223372036854775808 ≤ n ∧ n ≤ 9223372036854775807) ∧ s.length ≤ 140737488351232 ∧ is.length ≤ B ∧ ns.length ≤ B ∧ (∀ x ∈ ns, x.length ≤ 140737488351232) ∧ ∀ v ∈ is, okW B v) : okW B (.mk k n s is ns) := by
  rw [okW, okWL_all]; exact h
theorem okW_okV {B : Nat} (hB : B ≤ 1000000000000) : ∀ v, okW B v → okV v := by
  refine Val.ind fun k n s is ns ih h => ?_
  obtain ⟨h1, h2, h3, h4, h5, h6, h7⟩ := okW_inv h
  rw [okV, okL_all]
  exact ⟨h1, h2, h3, by omega, by omega, h6, fun v hv => ih v hv (h7 v hv)⟩
theorem okW_mono {B C : Nat} (hB : B ≤ C) : ∀ v, okW B v → okW C v := by
  refine Val.ind fun k n s is ns ih h => ?_
  obtain ⟨h1, h2, h3, h4, h5, h6, h7⟩ := okW_inv h
  exact okW_mk ⟨h1, h2, h3, by omega, by omega, h6, fun v hv => ih v hv (h7 v hv)⟩
theorem okW_items {B : Nat} {v y : Val} {i : Nat} (h : okW B v) (hy : (iV v)[i]? = some y) : okW B y := by
  obtain ⟨k, n, s, is, ns⟩ := v
  exact (okW_inv h).2.2.2.2.2.2 y (List.mem_of_getElem? hy)
theorem okW_swap {B : Nat} {v x : Val} {i : Nat} (h : okW B v) (hx : okW B x) : okW B (swapV v i x) := by
  obtain ⟨k, n, s, is, ns⟩ := v
  obtain ⟨h1, h2, h3, h4, h5, h6, h7⟩ := okW_inv h
  refine okW_mk ⟨h1, h2, h3, by rw [List.length_set]; exact h4, h5, h6, fun y hy => ?_⟩
  rcases List.mem_or_eq_of_mem_set hy with hy | rfl
  · exact h7 y hy
  · exact hx
theorem okW_grow {B : Nat} {v x : Val} {p : List UInt8} (h : okW B v) (hp : p.length ≤ 140737488351232) (hx : okW (B + 1) x) : okW (B + 1) (growV v p x) := by
  obtain ⟨k, n, s, is, ns⟩ := v
  obtain ⟨h1, h2, h3, h4, h5, h6, h7⟩ := okW_inv h
  refine okW_mk ⟨h1, h2, h3, by simp; omega, ?_, ?_, fun y hy => ?_⟩
  · split <;> (try simp) <;> omega
  · split
    · intro y hy
      rcases List.mem_append.1 hy with hy | hy
      · exact h6 y hy
      · simp at hy; subst hy; exact hp
    · exact h6
  · rcases List.mem_append.1 hy with hy | hy
    · exact okW_mono (Nat.le_succ B) _ (h7 y hy)
    · simp at hy; subst hy; exact hx
theorem okW_doc0 {B : Nat} : okW B docV0 := okW_mk ⟨by omega, by omega, by simp, by simp, by simp, by simp, by simp⟩
theorem okW_null {B : Nat} : okW B nullV := okW_mk ⟨by omega, by omega, by simp, by simp, by simp, by simp, by simp⟩
theorem okW_set {B : Nat} {x : Val} (hx : okW B x) : ∀ (ps : List (List UInt8)) (v : Val), okW B v → (∀ p ∈ ps, p.length ≤ 140737488351232) → okW (B + 1) (setV ps v x).1
  | [], v, h, hp => okW_mono (Nat.le_succ B) _ hx
  | p :: r, v, h, hp => by
    have hr : ∀ q ∈ r, q.length ≤ 140737488351232 := fun q hq => hp q (List.mem_cons_of_mem _ hq)
    have hx' := okW_mono (Nat.le_succ B) _ hx
    have h' := okW_mono (Nat.le_succ B) _ h
    rw [setV]
    split
    · split
      · rename_i y hy
        exact okW_swap h' (okW_set hx r y (okW_items h hy) hr)
      · exact h'
    · split
      · exact okW_grow h (hp p (List.mem_cons_self ..)) (okW_set hx r docV0 okW_doc0 hr)
      · split
        · exact okW_grow h (by simp) hx'
        · exact h'
theorem okW_without {B : Nat} {v : Val} {i : Nat} (h : okW B v) : okW B (withoutV v i) := by
  obtain ⟨k, n, s, is, ns⟩ := v
  obtain ⟨h1, h2, h3, h4, h5, h6, h7⟩ := okW_inv h
  rw [withoutV]
  split
  · exact okW_swap (v := .mk k n s is ns) h okW_null
  · refine okW_mk ⟨h1, h2, h3, ?_, ?_, fun y hy => h6 y (List.mem_of_mem_eraseIdx hy), fun y hy => h7 y (List.mem_of_mem_eraseIdx hy)⟩
    · have := List.length_eraseIdx_le is i; omega
    · have := List.length_eraseIdx_le ns i; omega
theorem okW_cut {B : Nat} {c : Int} {v : Val} {i : Nat} (h : okW B v) : okW B (cutV c v i) := by
  obtain ⟨k, n, s, is, ns⟩ := v
  rw [cutV]
  split
  · rename_i k' m' s' is' ns' hy
    split
    · obtain ⟨h1, h2, h3, h4, h5, h6, h7⟩ := okW_inv (okW_items (v := .mk k n s is ns) h hy)
      exact okW_swap (v := .mk k n s is ns) h (okW_mk ⟨h1, h2, h3, by rw [List.length_take]; omega, h5, h6, fun y hy => h7 y (List.mem_of_mem_take hy)⟩)
    · exact h
  · exact h
theorem okW_at {B : Nat} {f : Val → Nat → Val} (hf : ∀ v i, okW B v → okW B (f v i)) : ∀ (ps : List (List UInt8)) (v : Val), okW B v → okW B (atV f ps v)
  | [], v, h => h
  | p :: r, v, h => by
    cases r with
    | nil =>
      rw [atV]
      split
      · exact h
      · exact hf _ _ h
    | cons q t =>
      rw [atV]
      split
      · exact h
      · split
        · rename_i y hy
          exact okW_swap h (okW_at hf (q :: t) y (okW_items h hy))
        · exact h
theorem idxN_eq (s : List UInt8) : ∀ (l : List (List UInt8)) (i : Int), idxN s l i = if s ∈ l then i + (l.idxOf s : Int) else -1
  | [], i => by simp [idxN]
  | x :: r, i => by
    rw [idxN, idxN_eq s r]
    by_cases h : s = x
    · subst h; simp
    · have hx : (x == s) = false := by simp; exact fun e => h e.symm
      have : (s == x) = false := by simp [h]
      rw [this]
      simp only [Bool.false_eq_true, if_false, List.mem_cons, h, false_or, List.idxOf_cons, hx, cond_false]
      split
      · push_cast; omega
      · rfl
theorem place7 {n : Int} {s p : List UInt8} {is : List Val} {ns : List (List UInt8)} : placeV (.mk 7 n s is ns) p = if p ∈ ns then ((ns.idxOf p : Nat) : Int) else -1 := by
  simp only [placeV]
  rw [idxN_eq]
  simp
theorem place6 {n : Int} {s p : List UInt8} {is : List Val} {ns : List (List UInt8)} : placeV (.mk 6 n s is ns) p = if Option.getD (idxB p) (-1) < (is.length : Int) then Option.getD (idxB p) (-1) else -1 := rfl
theorem placeO {k n : Int} {s p : List UInt8} {is : List Val} {ns : List (List UInt8)} (h6 : k ≠ 6) (h7 : k ≠ 7) : placeV (.mk k n s is ns) p = -1 := by
  have a : (k == 7) = false := by simpa using h7
  have b : (k == 6) = false := by simpa using h6
  simp only [placeV, a, b]
  simp
theorem may_inv7 {n : Int} {s : List UInt8} {is : List Val} {ns : List (List UInt8)} (h : mayV (.mk 7 n s is ns) = true) : n = 0 ∧ s = [] ∧ ns.length = is.length ∧ twiceB ns = false ∧ ns.all nameB = true ∧ ∀ v ∈ is, mayV v = true := by
  rw [mayV, mayL_all] at h
  simp only [shapeB, Bool.and_eq_true] at h
  simp at h
  refine ⟨h.2.1.1.1, h.2.1.1.2, h.2.1.2, h.2.2, ?_, h.1.1⟩
  simpa using h.1.2
theorem may_mk7 {is : List Val} {ns : List (List UInt8)} (h1 : ns.length = is.length) (h2 : twiceB ns = false) (h3 : ns.all nameB = true) (h4 : ∀ v ∈ is, mayV v = true) : mayV (.mk 7 0 [] is ns) = true := by
  rw [mayV, mayL_all, h3]
  simp [shapeB, h1, h2]
  exact h4
theorem may_inv6 {n : Int} {s : List UInt8} {is : List Val} {ns : List (List UInt8)} (h : mayV (.mk 6 n s is ns) = true) : n = 0 ∧ s = [] ∧ ns = [] ∧ ∀ v ∈ is, mayV v = true := by
  rw [mayV, mayL_all] at h
  simp only [shapeB, Bool.and_eq_true] at h
  simp at h
  exact ⟨h.2.1.1, h.2.1.2, h.2.2, h.1.1⟩
theorem may_mk6 {is : List Val} (h4 : ∀ v ∈ is, mayV v = true) : mayV (.mk 6 0 [] is []) = true := by
  rw [mayV, mayL_all]
  simp [shapeB]
  exact h4
theorem digsB_nn : ∀ (s : List UInt8) (n m : Int), 0 ≤ n → digsB s n = some m → 0 ≤ m
  | [], n, m, h, e => by simp [digsB] at e; omega
  | c :: r, n, m, h, e => by
    rw [digsB] at e
    split at e
    · cases e
    · rename_i hc
      simp at hc
      exact digsB_nn r _ m (by omega) e
theorem idxB_nn {s : List UInt8} {m : Int} (h : idxB s = some m) : 0 ≤ m := by
  unfold idxB at h
  split at h
  · cases h
  · exact digsB_nn s 0 m (by omega) h
theorem idxB_cases (p : List UInt8) : (idxB p = none ∧ Option.getD (idxB p) (-1) = -1) ∨ ∃ j : Nat, idxB p = some (j : Int) := by
  cases h : idxB p with
  | none => exact .inl ⟨rfl, rfl⟩
  | some m => exact .inr ⟨m.toNat, by rw [Int.toNat_of_nonneg (idxB_nn h)]⟩
theorem place_cases {v : Val} (hm : mayV v = true) (p : List UInt8) : placeV v p = -1 ∨ ∃ i y, placeV v p = ((i : Nat) : Int) ∧ (iV v)[i]? = some y ∧ y ∈ iV v ∧ mayV y = true := by
  obtain ⟨k, n, s, is, ns⟩ := v
  by_cases h7 : k = 7
  · subst h7
    obtain ⟨_, _, hl, _, _, hmi⟩ := may_inv7 hm
    rw [place7]
    split
    · rename_i hp
      have : ns.idxOf p < is.length := by rw [← hl]; exact List.idxOf_lt_length_of_mem hp
      exact .inr ⟨_, is[ns.idxOf p], rfl, List.getElem?_eq_getElem this, List.getElem_mem this, hmi _ (List.getElem_mem this)⟩
    · exact .inl rfl
  · by_cases h6 : k = 6
    · subst h6
      obtain ⟨_, _, _, hmi⟩ := may_inv6 hm
      rw [place6]
      rcases idxB_cases p with ⟨_, h⟩ | ⟨j, h⟩
      · rw [h]; left; split <;> rfl
      · rw [h]
        simp only [Option.getD_some]
        by_cases hj : (j : Int) < is.length
        · rw [if_pos hj]
          have : j < is.length := by omega
          exact .inr ⟨j, is[j], rfl, List.getElem?_eq_getElem this, List.getElem_mem this, hmi _ (List.getElem_mem this)⟩
        · rw [if_neg hj]; exact .inl rfl
    · exact .inl (placeO h6 h7)
theorem place_swap {v x : Val} {i : Nat} (p : List UInt8) : placeV (swapV v i x) p = placeV v p := by
  obtain ⟨k, n, s, is, ns⟩ := v
  simp only [swapV, placeV, List.length_set]
theorem items_swap {v x : Val} {i : Nat} : iV (swapV v i x) = (iV v).set i x := by obtain ⟨k, n, s, is, ns⟩ := v; rfl
theorem kind_swap {v x : Val} {i : Nat} : kV (swapV v i x) = kV v := by obtain ⟨k, n, s, is, ns⟩ := v; rfl
theorem may_swap {v x : Val} {i : Nat} (hv : mayV v = true) (hx : mayV x = true) : mayV (swapV v i x) = true := by
  obtain ⟨k, n, s, is, ns⟩ := v
  rw [mayV, mayL_all] at hv
  rw [swapV, mayV, mayL_all, List.length_set]
  simp only [Bool.and_eq_true] at hv ⊢
  refine ⟨⟨?_, hv.1.2⟩, hv.2⟩
  rw [List.all_eq_true] at hv ⊢
  intro y hy
  rcases List.mem_or_eq_of_mem_set hy with hy | rfl
  · exact hv.1.1 y hy
  · exact hx
theorem twiceB_snoc (p : List UInt8) : ∀ (l : List (List UInt8)), p ∉ l → twiceB l = false → twiceB (l ++ [p]) = false
  | [], _, _ => rfl
  | x :: r, h, ht => by
    simp only [twiceB, Bool.or_eq_false_iff, List.contains_eq_mem, decide_eq_false_iff_not, List.cons_append, List.mem_append, List.mem_singleton, not_or] at ht ⊢
    simp only [List.mem_cons, not_or] at h
    exact ⟨⟨ht.1, fun e => h.1 e.symm⟩, twiceB_snoc p r h.2 ht.2⟩
theorem twiceB_erase : ∀ (l : List (List UInt8)) (i : Nat), twiceB l = false → twiceB (l.eraseIdx i) = false
  | [], _, _ => rfl
  | x :: r, 0, h => by simp only [twiceB, Bool.or_eq_false_iff] at h; exact h.2
  | x :: r, i + 1, h => by
    simp only [twiceB, Bool.or_eq_false_iff, List.contains_eq_mem, decide_eq_false_iff_not, List.eraseIdx_cons_succ] at h ⊢
    exact ⟨fun hx => h.1 (List.mem_of_mem_eraseIdx hx), twiceB_erase r i h.2⟩
theorem may_docV0 : mayV docV0 = true := rfl
theorem may_nullV : mayV nullV = true := rfl
theorem may_set {x : Val} (hx : mayV x = true) : ∀ (ps : List (List UInt8)) (v : Val), mayV v = true → ps.all nameB = true → mayV (setV ps v x).1 = true
  | [], v, hv, hp => hx
  | p :: r, v, hv, hp => by
    simp only [List.all_cons, Bool.and_eq_true] at hp
    rw [setV]
    rcases place_cases hv p with h | ⟨i, y, h, hi, _, hy⟩
    · rw [h, if_neg (by omega)]
      obtain ⟨k, n, s, is, ns⟩ := v
      by_cases h7 : k = 7
      · subst h7
        obtain ⟨rfl, rfl, hl, ht, hn, hmi⟩ := may_inv7 hv
        rw [if_pos (by rfl)]
        rw [place7] at h
        have hnot : p ∉ ns := by intro hm; rw [if_pos hm] at h; omega
        simp only [growV]
        refine may_mk7 (by simp [hl]) (by simpa using twiceB_snoc p ns hnot ht) (by simp [List.all_append] at hn ⊢; exact ⟨hn, hp.1⟩) fun y hy => ?_
        rcases List.mem_append.1 hy with hy | hy
        · exact hmi y hy
        · simp at hy; subst hy; exact may_set hx r docV0 may_docV0 hp.2
      · by_cases h6 : k = 6
        · subst h6
          obtain ⟨rfl, rfl, rfl, hmi⟩ := may_inv6 hv
          rw [if_neg (by simp [kV]), if_pos (by rfl)]
          simp only [growV]
          refine may_mk6 fun y hy => ?_
          rcases List.mem_append.1 hy with hy | hy
          · exact hmi y hy
          · simp at hy; subst hy; exact hx
        · have a : (k == 7) = false := by simpa using h7
          have b : (k == 6) = false := by simpa using h6
          simp only [kV, a, b, Bool.false_eq_true, if_false]
          exact hv
    · rw [h, if_pos (by omega), Int.toNat_natCast, hi]
      exact may_swap hv (may_set hx r y hy hp.2)
theorem kind_set {x : Val} {p : List UInt8} {r : List (List UInt8)} {v : Val} : kV (setV (p :: r) v x).1 = kV v := by
  rw [setV]
  split
  · split
    · exact kind_swap
    · rfl
  · split
    · obtain ⟨k, n, s, is, ns⟩ := v; rfl
    · split
      · obtain ⟨k, n, s, is, ns⟩ := v; rfl
      · rfl
theorem place_grow7 {s p : List UInt8} {is : List Val} {ns : List (List UInt8)} {n : Int} {x : Val} (hl : ns.length = is.length) (hnot : p ∉ ns) : placeV (growV (.mk 7 n s is ns) p x) p = (is.length : Int) := by
  simp only [growV]
  have e : ((7 : Int) == 7) = true := rfl
  rw [if_pos e, place7, if_pos (by simp), List.idxOf_append, if_neg hnot]
  simp [hl]
end Go.LS
namespace Go.LS
theorem okW_get {B : Nat} : ∀ (ps : List (List UInt8)) (v a : Val), okW B v → getV ps v = some a → okW B a
  | [], v, a, h, e => by simp only [getV, Option.some.injEq] at e; subst e; exact h
  | p :: r, v, a, h, e => by
    rw [getV] at e
    split at e
    · cases e
    · split at e
      · rename_i x hx
        exact okW_get r x a (okW_items (i := (placeV v p).toNat) h (by obtain ⟨_, _, _, _, _⟩ := v; exact hx)) e
      · cases e
end Go.LS

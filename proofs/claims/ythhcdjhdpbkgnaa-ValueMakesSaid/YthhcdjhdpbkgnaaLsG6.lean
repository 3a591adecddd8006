/- A small semantics of loaded Go code that the kernel can run, part 6. -/
import Derived.Test.YthhcdjhdpbkgnaaLsG1
import Derived.Test.YthhcdjhdpbkgnaaLsG5
set_option linter.unusedVariables false
set_option linter.unusedSimpArgs false
namespace Go.LS
abbrev CallLe (c c' : CallF) : Prop := ∀ f a s r, c f a s = some r → c' f a s = some r ∧ c'.weak f = c.weak f
theorem callIso_mono {c c' : CallF} (h : CallLe c c') {f : FuncId} {args : List LV} {st : List LObj} {r : LV × List LObj} (hr : callIso c f args st = some r) : callIso c' f args st = some r := by
  unfold callIso at hr ⊢
  simp only at hr ⊢
  split at hr
  · rename_i hcl
    split at hr
    · rename_i v st' hc
      obtain ⟨h1, h2⟩ := h _ _ _ _ hc
      rw [h2, if_pos hcl, h1]
      exact hr
    · cases hr
  · cases hr
theorem callFz_mono {c c' : CallF} (h : CallLe c c') : CallLe (callFz c) (callFz c') := by
  intro f a s r hr
  unfold callFz at hr ⊢
  simp only at hr ⊢
  split at hr
  · rename_i v st' hc
    obtain ⟨h1, h2⟩ := h _ _ _ _ hc
    rw [h1]
    exact ⟨hr, h2⟩
  · cases hr
theorem opStep_mono {c c' : CallF} (h : CallLe c c') {t : List LV} {st : List LObj} {op : LOp} {r : LV × List LObj} (hr : opStep c t st op = some r) : opStep c' t st op = some r := by
  cases op
  case call f args => simp only [opStep] at hr ⊢; exact callIso_mono h hr
  case callz f args => simp only [opStep] at hr ⊢; exact callIso_mono (callFz_mono h) hr
  case callv f args =>
    simp only [opStep] at hr ⊢
    split at hr
    · exact callIso_mono h hr
    · cases hr
  all_goals exact hr
theorem runOp_mono {c c' : CallF} (h : CallLe c c') {t : List LV} {st : List LObj} {o : LOper} {r : LV × List LObj} (hr : runOp c t st o = some r) : runOp c' t st o = some r := by
  unfold runOp at hr ⊢
  split at hr
  · exact opStep_mono h hr
  · exact hr
  · cases hr
theorem runOps_mono {c c' : CallF} (h : CallLe c c') : ∀ {l : List LOper} {t : List LV} {st : List LObj} {r : List LV × List LObj}, runOps c l t st = some r → runOps c' l t st = some r
  | [], t, st, r, hr => hr
  | o :: l, t, st, r, hr => by
    simp only [runOps] at hr ⊢
    split at hr
    · rename_i v st' hs
      rw [runOp_mono h hs]
      exact runOps_mono h hr
    · cases hr
theorem heldOk_mono {c c' : CallF} (h : CallLe c c') {st : List LObj} {held : List (DOp × List LV × LV)} (hr : heldOk c st held = true) : heldOk c' st held = true := by
  unfold heldOk at hr ⊢
  rw [List.all_eq_true] at hr ⊢
  intro x hx
  have := hr x hx
  split at this
  · rename_i v s hs
    rw [runOp_mono h hs]
    exact this
  · cases this
theorem runDrawn_mono {c c' : CallF} (h : CallLe c c') : ∀ {l : List DOp} {held : List (DOp × List LV × LV)} {t : List LV} {st : List LObj} {r : List LV × List LObj}, runDrawn c l held t st = some r → runDrawn c' l held t st = some r
  | [], held, t, st, r, hr => hr
  | d :: l, held, t, st, r, hr => by
    simp only [runDrawn] at hr ⊢
    split at hr
    · cases hr
    · rename_i v st' hs
      rw [runOp_mono h hs]
      simp only
      split at hr
      · split at hr
        · rename_i hp; rw [if_pos hp]; exact runDrawn_mono h hr
        · cases hr
      · split at hr
        · rename_i hp
          simp only [Bool.and_eq_true] at hp
          rw [if_pos (by simp [hp.1, heldOk_mono h hp.2])]; exact runDrawn_mono h hr
        · cases hr
      · split at hr
        · rename_i hp
          simp only [Bool.and_eq_true] at hp
          rw [if_pos (by simp only [Bool.and_eq_true]; exact ⟨hp.1, heldOk_mono h hp.2⟩)]; exact runDrawn_mono h hr
        · cases hr
theorem both_same (r : LOut × List LV × List LObj) : both (some r) (some r) = some r := by
  unfold both
  simp [LV.eqbs_refl, eqbSt_refl]
theorem exec_mono {c c' : CallF} (h : CallLe c c') {k : Nat} : ∀ {n m : Nat}, n ≤ m → ∀ {lc : LCode} {t : List LV} {st : List LObj} {r : LOut × List LV × List LObj}, exec c k n lc t st = some r → exec c' k m lc t st = some r
  | 0, m, _, lc, t, st, r, hr => by simp [exec] at hr
  | n + 1, 0, hnm, lc, t, st, r, hr => by omega
  | n + 1, m + 1, hnm, lc, t, st, r, hr => by
    have hle : n ≤ m := by omega
    cases lc with
    | skip => exact hr
    | exit id mask => exact hr
    | ret mask => exact hr
    | fail => simp [exec] at hr
    | region ops =>
      simp only [exec] at hr ⊢
      split at hr
      · rename_i t' st' hs
        rw [runOps_mono h hs]; exact hr
      · cases hr
    | drawn ops =>
      simp only [exec] at hr ⊢
      split at hr
      · rename_i t' st' hs
        rw [runDrawn_mono h hs]; exact hr
      · cases hr
    | seq a b =>
      have go : ∀ {la : LCode} {r}, cont2 (exec c k n la t st) (exec c k n b) = some r → cont2 (exec c' k m la t st) (exec c' k m b) = some r := by
        intro la r hr
        cases ha : exec c k n la t st with
        | none => rw [ha] at hr; cases hr
        | some x =>
          rw [ha] at hr
          rw [exec_mono h hle ha]
          obtain ⟨o, t', st'⟩ := x
          cases o with
          | normal => exact exec_mono h hle hr
          | _ => exact hr
      simp only [exec] at hr ⊢
      exact go hr
    | both x a b d =>
      have go : ∀ {la : LCode} {r}, cont2 (exec c k n la t st) (exec c k n d) = some r → cont2 (exec c' k m la t st) (exec c' k m d) = some r := by
        intro la r hr
        cases ha : exec c k n la t st with
        | none => rw [ha] at hr; cases hr
        | some x =>
          rw [ha] at hr
          rw [exec_mono h hle ha]
          obtain ⟨o, t', st'⟩ := x
          cases o with
          | normal => exact exec_mono h hle hr
          | _ => exact hr
      simp only [exec] at hr ⊢
      split at hr
      · exact go hr
      · exact go hr
      · obtain ⟨e1, e2⟩ := both_eq hr
        rw [go e1, go e2]
        exact both_same r
      · cases hr
    | cond x a b =>
      simp only [exec] at hr ⊢
      split at hr
      · exact exec_mono h hle hr
      · exact exec_mono h hle hr
      · obtain ⟨e1, e2⟩ := both_eq hr
        rw [exec_mono h hle e1, exec_mono h hle e2]
        exact both_same r
      · cases hr
    | block id mask a =>
      simp only [exec] at hr ⊢
      cases ha : exec c k n a t st with
      | none => rw [ha] at hr; cases hr
      | some x =>
        rw [ha] at hr
        rw [exec_mono h hle ha]
        exact hr
    | loop mask a =>
      simp only [exec] at hr ⊢
      split at hr
      · rename_i t0 st0 hg
        cases ha : exec c k n a t0 st0 with
        | none => rw [ha] at hr; cases hr
        | some x =>
          rw [ha] at hr
          rw [exec_mono h hle ha]
          obtain ⟨o, t', st'⟩ := x
          cases o with
          | normal => exact exec_mono h hle hr
          | _ => exact hr
      · cases hr
theorem runF_mono {lp : LProg} : ∀ {n m : Nat}, n ≤ m → CallLe (runF lp n) (runF lp m)
  | 0, m, _ => fun f a s r h => by simp [runF] at h
  | n + 1, 0, hnm => by omega
  | n + 1, m + 1, hnm => by
    intro f a s r h
    refine ⟨?_, rfl⟩
    simp only [runF] at h ⊢
    split at h
    · exact h
    · split at h
      · cases h
      · rename_i lf hlf
        split at h
        · cases h
        · rename_i out t' st' hne hex
          rw [exec_mono (runF_mono (show n ≤ m by omega)) (show n ≤ m by omega) hex]
          simp only
          cases out with
          | exit i => exact (hne i rfl).elim
          | _ => exact h
        · cases h
def Runs (lp : LProg) (f : FuncId) (args : List LV) (st : List LObj) (r : LV × List LObj) : Prop := ∃ n, runF lp n f args st = some r
def Exec (lp : LProg) (k : Nat) (c : LCode) (t : List LV) (st : List LObj) (r : LOut × List LV × List LObj) : Prop := ∃ n, exec (runF lp n) k n c t st = some r
theorem Exec.at {lp : LProg} {k : Nat} {c : LCode} {t : List LV} {st : List LObj} {r : LOut × List LV × List LObj} (h : Exec lp k c t st r) : ∃ n, ∀ m, n ≤ m → exec (runF lp m) k m c t st = some r :=
  let ⟨n, hn⟩ := h
  ⟨n, fun m hm => exec_mono (runF_mono hm) hm hn⟩
theorem Runs.at {lp : LProg} {f : FuncId} {args : List LV} {st : List LObj} {r : LV × List LObj} (h : Runs lp f args st r) : ∃ n, ∀ m, n ≤ m → runF lp m f args st = some r :=
  let ⟨n, hn⟩ := h
  ⟨n, fun m hm => (runF_mono hm _ _ _ _ hn).1⟩
def RunsZ (lp : LProg) (f : FuncId) (args : List LV) (st : List LObj) (r : LV × List LObj) : Prop := ∃ n, callFz (runF lp n) f args st = some r
theorem RunsZ.at {lp : LProg} {f : FuncId} {args : List LV} {st : List LObj} {r : LV × List LObj} (h : RunsZ lp f args st r) : ∃ n, ∀ m, n ≤ m → callFz (runF lp m) f args st = some r := by
  obtain ⟨n, hn⟩ := h
  exact ⟨n, fun m hm => (callFz_mono (runF_mono hm) _ _ _ _ hn).1⟩
theorem gc_pure {st : List LObj} {vs : List LV} (h : vs.flatMap LV.refs = []) : gc 0 vs st = some (vs.map (LV.ren fun q => ([] : List Nat).idxOf q), []) := by
  unfold gc gcIds
  simp only [List.take_zero, List.flatMap_nil, h, List.append_nil, List.range_zero]
  have e : reach st 100000 [] [] = [] := rfl
  rw [e]
  exact if_pos rfl
theorem Runs.z {lp : LProg} {f : FuncId} {args : List LV} {r v : LV} {st st' : List LObj} (h : Runs lp f args [] (r, st)) (hf : frzV st r = (v, st')) (hv : v.refs = []) (hr : v.ren (fun q => ([] : List Nat).idxOf q) = v) : RunsZ lp f args [] (v, []) := by
  obtain ⟨n, hn⟩ := h
  refine ⟨n, ?_⟩
  unfold callFz
  simp only [hn, hf, List.length_nil]
  rw [gc_pure (by simp [hv])]
  simp only [List.map_cons, List.map_nil, hr]
end Go.LS
set_option linter.unusedVariables false
set_option linter.unusedSimpArgs false
namespace Go.LS
inductive Orc where
  | b (c : Bool)
  | op (v : LV) (st : List LObj)
  | call (v : LV) (st : List LObj)
  | lp (out : LOut) (t : List LV) (st : List LObj)
  | lg (out : LOut) (t : List LV) (st : List LObj) (t0 : List LV) (st0 : List LObj)
  | cg (v : LV) (st : List LObj)
abbrev Os := List (Nat × Orc)
def tick : Os → Option Orc × Os
  | (0, o) :: r => (some o, r)
  | (n + 1, o) :: r => (none, (n, o) :: r)
  | [] => (none, [])
def LX.inst (t : List LV) (x : LX) : LX := .const (x.ev t)
def noCall : CallF := ⟨fun _ _ _ => none, fun _ => false⟩
def LOp.inst (t : List LV) : LOp → LOp
  | .mv x => .mv (x.inst t)
  | .pick c a b => .pick (c.inst t) (a.inst t) (b.inst t)
  | .alloc z => .alloc z
  | .box x => .box (x.inst t)
  | .build z ps => .build z (ps.map fun p => (p.1, p.2.1, p.2.2.inst t))
  | .mkrow r s l z ps => .mkrow r s l z (ps.map fun p => (p.1, p.2.inst t))
  | .load a n x => .load a n (x.inst t)
  | .store n x v => .store n (x.inst t) (v.inst t)
  | .nilChk x => .nilChk (x.inst t)
  | .bin o x y => .bin o (x.inst t) (y.inst t)
  | .beq o x y => .beq o (x.inst t) (y.inst t)
  | .peq o x y => .peq o (x.inst t) (y.inst t)
  | .nileq o k x => .nileq o k (x.inst t)
  | .un o x => .un o (x.inst t)
  | .cv k x => .cv k (x.inst t)
  | .fn f cs => .fn f (cs.map (LX.inst t))
  | .fnm f fs cs => .fnm f (fs.map (LX.inst t)) (cs.map (LX.inst t))
  | .clearS z x => .clearS z (x.inst t)
  | .appendR n m a b => .appendR n m (a.inst t) (b.inst t)
  | .iface ty x => .iface ty (x.inst t)
  | .mkmap => .mkmap
  | .mkslice a b z l c => .mkslice a b z (l.inst t) (c.inst t)
  | .sslice x a b c => .sslice (x.inst t) (a.map (LX.inst t)) (b.map (LX.inst t)) (c.map (LX.inst t))
  | .slice n x a b c => .slice n (x.inst t) (a.map (LX.inst t)) (b.map (LX.inst t)) (c.map (LX.inst t))
  | .fieldAddr n x => .fieldAddr n (x.inst t)
  | .field g n m x => .field g n m (x.inst t)
  | .indexAddr n x i => .indexAddr n (x.inst t) (i.inst t)
  | .arrAddr n m x i => .arrAddr n m (x.inst t) (i.inst t)
  | .index x i => .index (x.inst t) (i.inst t)
  | .arrIndex g n m x i => .arrIndex g n m (x.inst t) (i.inst t)
  | .lookup k z o x i => .lookup k z o (x.inst t) (i.inst t)
  | .mapUpdate k a b c => .mapUpdate k (a.inst t) (b.inst t) (c.inst t)
  | .delete k a b => .delete k (a.inst t) (b.inst t)
  | .range x => .range (x.inst t)
  | .next x => .next (x.inst t)
  | .extract x i => .extract (x.inst t) i
  | .call f as => .call f (as.map (LX.inst t))
  | .callv f as => .callv (f.inst t) (as.map (LX.inst t))
  | .callz f as => .callz f (as.map (LX.inst t))
  | .append s n m a b => .append s n m (a.inst t) (b.inst t)
  | .grow n m a b => .grow n m (a.inst t) (b.inst t)
  | .len x => .len (x.inst t)
  | .slen x => .slen (x.inst t)
  | .mlen x => .mlen (x.inst t)
  | .const v => .const v
  | .fail => .fail
  | .seq n l x y => .seq n l (x.inst t) (y.inst t)
  | .retire x => .retire (x.inst t)
  | .cap x => .cap (x.inst t)
  | .mx x y => .mx (x.inst t) (y.inst t)
  | .mn x y => .mn (x.inst t) (y.inst t)
theorem inst_ev (t s : List LV) (x : LX) : (x.inst t).ev s = x.ev t := rfl
theorem inst_evs (t s : List LV) (xs : List LX) : (xs.map (LX.inst t)).map (LX.ev s) = xs.map (LX.ev t) := by rw [List.map_map]; rfl
theorem inst_evo (t s : List LV) (xs : Option LX) : (xs.map (LX.inst t)).map (LX.ev s) = xs.map (LX.ev t) := by cases xs <;> rfl
theorem inst_parts (t s : List LV) : ∀ (ps : List (Nat × Nat × LX)), evParts s (ps.map fun p => (p.1, p.2.1, p.2.2.inst t)) = evParts t ps
  | [] => rfl
  | (a, b, x) :: r => by simp only [List.map_cons, evParts, inst_ev, inst_parts t s r]
theorem inst_row (t s : List LV) : ∀ (ps : List (Nat × LX)), evRow s (ps.map fun p => (p.1, p.2.inst t)) = evRow t ps
  | [] => rfl
  | (a, x) :: r => by simp only [List.map_cons, evRow, inst_ev, inst_row t s r]
theorem opStep_inst (call : CallF) (t s : List LV) (st : List LObj) (op : LOp) : opStep call s st (op.inst t) = opStep call t st op := by
  cases op <;> simp only [LOp.inst, opStep, inst_ev, inst_evs, inst_evo, inst_parts, inst_row]
abbrev OpIs (t : List LV) (st : List LObj) (op : LOp) (v : LV) (st' : List LObj) : Prop := opStep noCall [] st (op.inst t) = some (v, st')
theorem noCall_le (c : CallF) : CallLe noCall c := fun f a s r h => by simp [noCall] at h
theorem OpIs.step {t : List LV} {st st' : List LObj} {op : LOp} {v : LV} (h : OpIs t st op v st') (c : CallF) : opStep c t st op = some (v, st') :=
  opStep_mono (noCall_le c) (by rw [← opStep_inst noCall t []]; exact h)
def callO (lp : LProg) (f : FuncId) (args : List LV) (st : List LObj) (r : LV) (st1 : List LObj) : Option (LV × List LObj × Prop) :=
  let args := wk (lp.weak f) args
  let ids := reach st 100000 (args.flatMap LV.refs) []
  if closed st ids && (args.flatMap LV.refs).all (ids.contains ·) && decide ids.Nodup then
    if ids.length ≤ st1.length then
      let b := back ids st.length
      some (r.ren b, putBack st ids ((st1.take ids.length).map (LObj.ren b)) ++ (st1.drop ids.length).map (LObj.ren b),
        Runs lp f (args.map (LV.ren fun q => ids.idxOf q)) (sub st ids) (r, st1))
    else none
  else none
theorem callO_sound {lp : LProg} {f : FuncId} {args : List LV} {st st1 st' : List LObj} {r v : LV} {p : Prop} (h : callO lp f args st r st1 = some (v, st', p)) (hp : p) :
    ∃ n, ∀ m, n ≤ m → callIso (runF lp m) f args st = some (v, st') := by
  unfold callO at h
  simp only at h
  split at h
  · rename_i hc
    split at h
    · rename_i hl
      cases h
      obtain ⟨n, hn⟩ := Runs.at hp
      refine ⟨n, fun m hm => ?_⟩
      unfold callIso
      simp only
      rw [runF_weak, if_pos hc, hn m hm]
      simp only
      rw [if_pos hl]
    · cases h
  · cases h
def callOz (lp : LProg) (f : FuncId) (args : List LV) (st : List LObj) (r : LV) (st1 : List LObj) : Option (LV × List LObj × Prop) :=
  let args := wk (lp.weak f) args
  let ids := reach st 100000 (args.flatMap LV.refs) []
  if closed st ids && (args.flatMap LV.refs).all (ids.contains ·) && decide ids.Nodup then
    if ids.length ≤ st1.length then
      let b := back ids st.length
      some (r.ren b, putBack st ids ((st1.take ids.length).map (LObj.ren b)) ++ (st1.drop ids.length).map (LObj.ren b),
        RunsZ lp f (args.map (LV.ren fun q => ids.idxOf q)) (sub st ids) (r, st1))
    else none
  else none
theorem callOz_sound {lp : LProg} {f : FuncId} {args : List LV} {st st1 st' : List LObj} {r v : LV} {p : Prop} (h : callOz lp f args st r st1 = some (v, st', p)) (hp : p) :
    ∃ n, ∀ m, n ≤ m → callIso (callFz (runF lp m)) f args st = some (v, st') := by
  unfold callOz at h
  simp only at h
  split at h
  · rename_i hc
    split at h
    · rename_i hl
      cases h
      obtain ⟨n, hn⟩ := RunsZ.at hp
      refine ⟨n, fun m hm => ?_⟩
      unfold callIso
      simp only
      have hw : (callFz (runF lp m)).weak f = lp.weak f := by show (runF lp m).weak f = _; rw [runF_weak]
      rw [hw, if_pos hc, hn m hm]
      simp only
      rw [if_pos hl]
    · cases h
  · cases h
def CallAt (lp : LProg) (f : FuncId) (args : List LV) (st : List LObj) (r : LV × List LObj) : Prop := ∃ n, ∀ m, n ≤ m → callIso (runF lp m) f args st = some r
def gdO (t : List LV) (g : Option (Nat × Bool)) (os : Os) : Option (Bool × List Prop × Os) :=
  match g with
  | none => some (true, [], os)
  | some (j, want) => match tick os with
    | (some (.b c), os') => some (c == want, [t.getD j .und = .p (.bool c)], os')
    | (none, os') => match gd t (some (j, want)) with
      | some b => some (b, [], os')
      | none => none
    | _ => none
abbrev AllP (ps : List Prop) : Prop := ∀ p ∈ ps, p
theorem gdO_sound {t : List LV} {g : Option (Nat × Bool)} {os os' : Os} {b : Bool} {ps : List Prop} (h : gdO t g os = some (b, ps, os')) (hp : AllP ps) : gd t g = some b := by
  unfold gdO at h
  split at h
  · cases h; rfl
  · split at h
    · cases h
      have := hp _ (List.mem_singleton.2 rfl)
      simp only [gd, this]
    · split at h
      · cases h; assumption
      · cases h
    · cases h
def stepO (lp : LProg) (t : List LV) (st : List LObj) (op : LOp) (os : Os) : Option (LV × List LObj × List Prop × Os) :=
  match tick os with
  | (none, os') => match opStep noCall t st op with
    | some (v, st') => some (v, st', [], os')
    | none => none
  | (some (.op v st'), os') => some (v, st', [OpIs t st op v st'], os')
  | (some (.call r st1), os') => match op with
    | .call f args => match callO lp f (args.map (LX.ev t)) st r st1 with
      | some (v, st', p) => some (v, st', [p], os')
      | none => none
    | .callz f args => match callOz lp f (args.map (LX.ev t)) st r st1 with
      | some (v, st', p) => some (v, st', [p], os')
      | none => none
    | .callv f args => match f.ev t with
      | .fn (.func g) first captured => match callO lp g (first ++ args.map (LX.ev t) ++ captured) st r st1 with
        | some (v, st', p) => some (v, st', [p], os')
        | none => none
      | _ => none
    | _ => none
  | (some (.cg v st'), os') => match op with
    | .call f args => some (v, st', [CallAt lp f (args.map (LX.ev t)) st (v, st')], os')
    | .callv f args => match f.ev t with
      | .fn (.func g) first captured => some (v, st', [CallAt lp g (first ++ args.map (LX.ev t) ++ captured) st (v, st')], os')
      | _ => none
    | _ => none
  | (some (.b c), os') => match op with
    | .pick x a b => some (if c then a.ev t else b.ev t, st, [x.ev t = .p (.bool c)], os')
    | _ => none
  | _ => none
theorem stepO_sound {lp : LProg} {t : List LV} {st st' : List LObj} {op : LOp} {os os' : Os} {v : LV} {ps : List Prop} (h : stepO lp t st op os = some (v, st', ps, os')) (hp : AllP ps) :
    ∃ n, ∀ m, n ≤ m → opStep (runF lp m) t st op = some (v, st') := by
  unfold stepO at h
  split at h
  · split at h <;> cases h
    exact ⟨0, fun m _ => opStep_mono (noCall_le _) ‹_›⟩
  · cases h
    have := hp _ (List.mem_singleton.2 rfl)
    exact ⟨0, fun m _ => OpIs.step this _⟩
  · split at h
    · split at h <;> cases h
      exact callO_sound ‹_› (hp _ (List.mem_singleton.2 rfl))
    · split at h <;> cases h
      exact callOz_sound ‹_› (hp _ (List.mem_singleton.2 rfl))
    · split at h
      · rename_i hf
        split at h <;> cases h
        obtain ⟨n, hn⟩ := callO_sound ‹_› (hp _ (List.mem_singleton.2 rfl))
        exact ⟨n, fun m hm => by simp only [opStep, hf]; exact hn m hm⟩
      · cases h
    · cases h
  · split at h
    · cases h
      exact hp _ (List.mem_singleton.2 rfl)
    · split at h
      · rename_i hf
        cases h
        obtain ⟨n, hn⟩ := hp _ (List.mem_singleton.2 rfl)
        exact ⟨n, fun m hm => by simp only [opStep, hf]; exact hn m hm⟩
      · cases h
    · cases h
  · split at h
    · cases h
      have := hp _ (List.mem_singleton.2 rfl)
      exact ⟨0, fun m _ => by simp only [opStep, this]⟩
    · cases h
  · cases h
def operO (lp : LProg) (t : List LV) (st : List LObj) (o : LOper) (os : Os) : Option (LV × List LObj × List Prop × Os × Bool) :=
  match gdO t o.guard os with
  | some (true, ps, os1) => match stepO lp t st o.op os1 with
    | some (v, st', qs, os2) => some (v, st', ps ++ qs, os2, true)
    | none => none
  | some (false, ps, os1) => some (.tup [], st, ps, os1, false)
  | none => none
theorem allP_append {ps qs : List Prop} (h : AllP (ps ++ qs)) : AllP ps ∧ AllP qs := ⟨fun p hp => h p (List.mem_append_left _ hp), fun p hp => h p (List.mem_append_right _ hp)⟩
theorem operO_sound {lp : LProg} {t : List LV} {st st' : List LObj} {o : LOper} {os os' : Os} {v : LV} {ps : List Prop} {d : Bool} (h : operO lp t st o os = some (v, st', ps, os', d)) (hp : AllP ps) :
    gd t o.guard = some d ∧ ∃ n, ∀ m, n ≤ m → runOp (runF lp m) t st o = some (v, st') := by
  unfold operO at h
  split at h
  · rename_i ps1 os1 hg
    split at h
    · rename_i v' st1 qs os2 hs
      cases h
      obtain ⟨h1, h2⟩ := allP_append hp
      obtain ⟨n, hn⟩ := stepO_sound hs h2
      have := gdO_sound hg h1
      exact ⟨this, n, fun m hm => by unfold runOp; rw [this]; exact hn m hm⟩
    · cases h
  · rename_i ps1 os1 hg
    cases h
    have := gdO_sound hg hp
    exact ⟨this, 0, fun m _ => by unfold runOp; rw [this]⟩
  · cases h
def opsO (lp : LProg) : List LOper → List LV → List LObj → Os → Option (List LV × List LObj × List Prop × Os)
  | [], t, st, os => some (t, st, [], os)
  | o :: r, t, st, os => match operO lp t st o os with
    | some (v, st', ps, os', _) => match opsO lp r (putT t o.dst v) st' os' with
      | some (t', st'', qs, os'') => some (t', st'', ps ++ qs, os'')
      | none => none
    | none => none
theorem opsO_sound {lp : LProg} : ∀ {l : List LOper} {t t' : List LV} {st st' : List LObj} {os os' : Os} {ps : List Prop}, opsO lp l t st os = some (t', st', ps, os') → AllP ps →
    ∃ n, ∀ m, n ≤ m → runOps (runF lp m) l t st = some (t', st')
  | [], t, t', st, st', os, os', ps, h, _ => by simp only [opsO] at h; cases h; exact ⟨0, fun m _ => rfl⟩
  | o :: r, t, t', st, st', os, os', ps, h, hp => by
    simp only [opsO] at h
    split at h
    · rename_i v st1 ps1 os1 d hs
      split at h
      · rename_i t2 st2 qs os2 hr
        cases h
        obtain ⟨h1, h2⟩ := allP_append hp
        obtain ⟨_, n, hn⟩ := operO_sound hs h1
        obtain ⟨k, hk⟩ := opsO_sound hr h2
        exact ⟨max n k, fun m hm => by simp only [runOps, hn m (by omega)]; exact hk m (by omega)⟩
      · cases h
    · cases h
def heldP (st : List LObj) (held : List (DOp × List LV × LV)) : List Prop := held.map fun x => OpIs x.2.1 st x.1.op.op x.2.2 st
theorem heldP_sound {lp : LProg} {m : Nat} {st : List LObj} {held : List (DOp × List LV × LV)} (h : AllP (heldP st held)) (hg : ∀ x ∈ held, gd x.2.1 x.1.op.guard = some true) : heldOk (runF lp m) st held = true := by
  unfold heldOk
  rw [List.all_eq_true]
  intro x hx
  have := h _ (List.mem_map.2 ⟨x, hx, rfl⟩)
  unfold runOp
  rw [hg x hx]
  simp only [OpIs.step this, LV.eqb_refl]
def drawnO (lp : LProg) : List DOp → List (DOp × List LV × LV) → List LV → List LObj → Os → Option (List LV × List LObj × List Prop × Os)
  | [], _, t, st, os => some (t, st, [], os)
  | d :: r, held, t, st, os => match operO lp t st d.op os with
    | none => none
    | some (v, st', ps, os', done) =>
      match d.cls with
      | .h => if pureV d.op.op v then
          match drawnO lp r (if statB t d.op.op || !done then held else (d, t, v) :: held) (putT t d.op.dst v) st' os' with
          | some (t', st'', qs, os'') => some (t', st'', ps ++ qs, os'')
          | none => none
        else none
      | .a => if newOk st st' then
          match drawnO lp r held (putT t d.op.dst v) st' os' with
          | some (t', st'', qs, os'') => some (t', st'', ps ++ heldP st' held ++ qs, os'')
          | none => none
        else none
      | .c => if decide (st.length ≤ st'.length) then
          match drawnO lp r (held.filter fun x => !d.must.contains x.1.idx) (putT t d.op.dst v) st' os' with
          | some (t', st'', qs, os'') => some (t', st'', ps ++ heldP st' (held.filter fun x => !d.must.contains x.1.idx) ++ qs, os'')
          | none => none
        else none
abbrev HeldSub (held heldO : List (DOp × List LV × LV)) : Prop := ∀ x ∈ held, x ∈ heldO ∨ (gd x.2.1 x.1.op.guard = some false ∧ x.2.2 = .tup [])
theorem heldSub_ok {lp : LProg} {m : Nat} {st : List LObj} {held heldO : List (DOp × List LV × LV)} (hs : HeldSub held heldO) (h : AllP (heldP st heldO)) (hg : ∀ x ∈ heldO, gd x.2.1 x.1.op.guard = some true) :
    heldOk (runF lp m) st held = true := by
  unfold heldOk
  rw [List.all_eq_true]
  intro x hx
  rcases hs x hx with hx | ⟨h1, h2⟩
  · have := List.all_eq_true.1 (heldP_sound (lp := lp) (m := m) h hg) x hx
    exact this
  · unfold runOp
    rw [h1, h2]
    rfl
theorem drawnO_sound {lp : LProg} : ∀ {l : List DOp} {heldO : List (DOp × List LV × LV)} {t t' : List LV} {st st' : List LObj} {os os' : Os} {ps : List Prop}, drawnO lp l heldO t st os = some (t', st', ps, os') → AllP ps →
    (∀ x ∈ heldO, gd x.2.1 x.1.op.guard = some true) → ∃ n, ∀ m, n ≤ m → ∀ held, HeldSub held heldO → runDrawn (runF lp m) l held t st = some (t', st')
  | [], heldO, t, t', st, st', os, os', ps, h, _, _ => by simp only [drawnO] at h; cases h; exact ⟨0, fun m _ held _ => rfl⟩
  | d :: r, heldO, t, t', st, st', os, os', ps, h, hp, hg => by
    simp only [drawnO] at h
    split at h
    · cases h
    · rename_i v st1 ps1 os1 done hs
      split at h
      · rename_i hc
        split at h
        · rename_i hpv
          split at h
          · rename_i t2 st2 qs os2 hr
            cases h
            obtain ⟨h1, h2⟩ := allP_append hp
            obtain ⟨hgd, n, hn⟩ := operO_sound hs h1
            obtain ⟨k, hk⟩ := drawnO_sound hr h2 (fun x hx => by
              split at hx
              · exact hg x hx
              · rename_i hst
                rcases List.mem_cons.1 hx with rfl | hx
                · have : done = true := by cases done <;> simp_all
                  rw [this] at hgd; exact hgd
                · exact hg x hx)
            refine ⟨max n k, fun m hm held hsub => ?_⟩
            simp only [runDrawn, hn m (by omega), hc]
            rw [if_pos hpv]
            refine hk m (by omega) _ (fun x hx => ?_)
            split at hx
            · rename_i hst
              rw [if_pos (by simp [hst])]
              exact hsub x hx
            · rename_i hst
              rcases List.mem_cons.1 hx with rfl | hx
              · cases hdn : done with
                | true => rw [if_neg (by simp [hst])]; exact .inl (by simp)
                | false =>
                  rw [hdn] at hgd
                  refine .inr ⟨hgd, ?_⟩
                  have := hn n (Nat.le_refl _)
                  unfold runOp at this
                  rw [hgd] at this
                  cases this; rfl
              · rcases hsub x hx with h | h
                · refine .inl ?_
                  split
                  · exact h
                  · exact List.mem_cons_of_mem _ h
                · exact .inr h
          · cases h
        · cases h
      · rename_i hc
        split at h
        · rename_i hnew
          split at h
          · rename_i t2 st2 qs os2 hr
            cases h
            obtain ⟨h12, h3⟩ := allP_append hp
            obtain ⟨h1, h2⟩ := allP_append h12
            obtain ⟨hgd, n, hn⟩ := operO_sound hs h1
            obtain ⟨k, hk⟩ := drawnO_sound hr h3 hg
            refine ⟨max n k, fun m hm held hsub => ?_⟩
            simp only [runDrawn, hn m (by omega), hc]
            rw [if_pos (by simp only [Bool.and_eq_true]; exact ⟨hnew, heldSub_ok hsub h2 hg⟩)]
            exact hk m (by omega) _ hsub
          · cases h
        · cases h
      · rename_i hc
        split at h
        · rename_i hlen
          split at h
          · rename_i t2 st2 qs os2 hr
            cases h
            obtain ⟨h12, h3⟩ := allP_append hp
            obtain ⟨h1, h2⟩ := allP_append h12
            obtain ⟨hgd, n, hn⟩ := operO_sound hs h1
            have hg' : ∀ x ∈ heldO.filter (fun x => !d.must.contains x.1.idx), gd x.2.1 x.1.op.guard = some true := fun x hx => hg x (List.mem_filter.1 hx).1
            obtain ⟨k, hk⟩ := drawnO_sound hr h3 hg'
            refine ⟨max n k, fun m hm held hsub => ?_⟩
            have hsub' : HeldSub (held.filter fun x => !d.must.contains x.1.idx) (heldO.filter fun x => !d.must.contains x.1.idx) := by
              intro x hx
              obtain ⟨a, b⟩ := List.mem_filter.1 hx
              rcases hsub x a with h | h
              · exact .inl (List.mem_filter.2 ⟨h, b⟩)
              · exact .inr h
            simp only [runDrawn, hn m (by omega), hc]
            rw [if_pos (by simp only [Bool.and_eq_true]; exact ⟨hlen, heldSub_ok hsub' h2 hg'⟩)]
            exact hk m (by omega) _ hsub'
          · cases h
        · cases h
def LoopAt (lp : LProg) (k : Nat) (mask : List Bool) (c : LCode) (t : List LV) (st : List LObj) (r : LOut × List LV × List LObj) : Prop :=
  ∃ n, (match exec (runF lp n) k n c t st with
    | some (.normal, t', st') => exec (runF lp n) k n (.loop mask c) t' st'
    | r => r) = some r
def execO (lp : LProg) (k : Nat) : Nat → LCode → List LV → List LObj → Os → Option (LOut × List LV × List LObj × List Prop × Os)
  | 0, _, _, _, _ => none
  | n + 1, c, t, st, os => match c with
    | .skip => some (.normal, t, st, [], os)
    | .region ops => match opsO lp ops t st os with
      | some (t', st', ps, os') => some (.normal, t', st', ps, os')
      | none => none
    | .drawn ops => match drawnO lp ops [] t st os with
      | some (t', st', ps, os') => some (.normal, t', st', ps, os')
      | none => none
    | .seq a b => match execO lp k n a t st os with
      | some (.normal, t', st', ps, os') => (match execO lp k n b t' st' os' with
        | some (o, t'', st'', qs, os'') => some (o, t'', st'', ps ++ qs, os'')
        | none => none)
      | r => r
    | .cond x a b => match tick os with
      | (some (.b c), os') => (match execO lp k n (if c then a else b) t st os' with
        | some (o, t', st', ps, os'') => some (o, t', st', (x.ev t = .p (.bool c)) :: ps, os'')
        | none => none)
      | (none, os') => (match x.ev t with
        | .p (.bool true) => execO lp k n a t st os'
        | .p (.bool false) => execO lp k n b t st os'
        | _ => none)
      | _ => none
    | .both x a b c => execO lp k n (.seq (.cond x a b) c) t st os
    | .block id mask c => match execO lp k n c t st os with
      | some (.exit i, t', st', ps, os') => if i = id then some (.normal, kill mask t', st', ps, os') else some (.exit i, t', st', ps, os')
      | some (.normal, t', st', ps, os') => some (.normal, kill mask t', st', ps, os')
      | r => r
    | .loop mask c => match tick os with
      | (some (.lp out t' st'), os') => (match gc k (kill mask t) st with
        | some (t0, st0) => some (out, t', st', [LoopAt lp k mask c t0 st0 (out, t', st')], os')
        | none => none)
      | (some (.lg out t' st' t0 st0), os') => some (out, t', st', [gc k (kill mask t) st = some (t0, st0), LoopAt lp k mask c t0 st0 (out, t', st')], os')
      | _ => none
    | .exit id mask => some (.exit id, kill mask t, st, [], os)
    | .ret mask => some (.ret, kill mask t, st, [], os)
    | .fail => none
theorem exec_both {c : CallF} {k m : Nat} {x : LX} {a b d : LCode} {t : List LV} {st : List LObj} {r : LOut × List LV × List LObj} (h : exec c k m (.seq (.cond x a b) d) t st = some r) : exec c k (m + 1) (.both x a b d) t st = some r := by
  cases m with
  | zero => simp [exec] at h
  | succ m =>
    cases m with
    | zero => simp [exec, cont2] at h
    | succ m =>
      show (match x.ev t with
        | .p (.bool true) => cont2 (exec c k (m + 1 + 1) a t st) (exec c k (m + 1 + 1) d)
        | .p (.bool false) => cont2 (exec c k (m + 1 + 1) b t st) (exec c k (m + 1 + 1) d)
        | .anyb => both (cont2 (exec c k (m + 1 + 1) a t st) (exec c k (m + 1 + 1) d)) (cont2 (exec c k (m + 1 + 1) b t st) (exec c k (m + 1 + 1) d))
        | _ => none) = some r
      replace h : cont2 (match x.ev t with
        | .p (.bool true) => exec c k m a t st
        | .p (.bool false) => exec c k m b t st
        | .anyb => both (exec c k m a t st) (exec c k m b t st)
        | _ => none) (exec c k (m + 1) d) = some r := h
      have up : ∀ {lz : LCode} {y}, exec c k m lz t st = some y → cont2 (some y) (exec c k (m + 1) d) = some r → cont2 (exec c k (m + 1 + 1) lz t st) (exec c k (m + 1 + 1) d) = some r := by
        intro lz y h1 h2
        rw [exec_mono (fun _ _ _ _ h => ⟨h, rfl⟩) (show m ≤ m + 1 + 1 by omega) h1]
        obtain ⟨o, t', st'⟩ := y
        cases o with
        | normal => exact exec_mono (fun _ _ _ _ h => ⟨h, rfl⟩) (show m + 1 ≤ m + 1 + 1 by omega) h2
        | _ => exact h2
      split at h
      · rename_i hx
        cases he : exec c k m a t st with
        | none => rw [he] at h; cases h
        | some y => rw [he] at h; (try simp only [hx]); exact up he h
      · rename_i hx
        cases he : exec c k m b t st with
        | none => rw [he] at h; cases h
        | some y => rw [he] at h; (try simp only [hx]); exact up he h
      · rename_i hx
        cases hb : both (exec c k m a t st) (exec c k m b t st) with
        | none => rw [hb] at h; cases h
        | some y =>
          rw [hb] at h
          obtain ⟨e1, e2⟩ := both_eq hb
          try simp only [hx]
          rw [up e1 h, up e2 h]
          exact both_same r
      · cases h
theorem execO_sound {lp : LProg} {k : Nat} : ∀ {n : Nat} {c : LCode} {t t' : List LV} {st st' : List LObj} {os os' : Os} {ps : List Prop} {o : LOut}, execO lp k n c t st os = some (o, t', st', ps, os') → AllP ps →
    Exec lp k c t st (o, t', st')
  | 0, c, t, t', st, st', os, os', ps, o, h, _ => by simp [execO] at h
  | n + 1, c, t, t', st, st', os, os', ps, o, h, hp => by
    cases c with
    | skip => simp only [execO] at h; cases h; exact ⟨1, rfl⟩
    | exit id mask => simp only [execO] at h; cases h; exact ⟨1, rfl⟩
    | ret mask => simp only [execO] at h; cases h; exact ⟨1, rfl⟩
    | fail => simp [execO] at h
    | region ops =>
      simp only [execO] at h
      split at h
      · rename_i t1 st1 ps1 os1 hs
        cases h
        obtain ⟨m, hm⟩ := opsO_sound hs hp
        exact ⟨m + 1, by simp only [exec]; rw [hm (m + 1) (by omega)]⟩
      · cases h
    | drawn ops =>
      simp only [execO] at h
      split at h
      · rename_i t1 st1 ps1 os1 hs
        cases h
        obtain ⟨m, hm⟩ := drawnO_sound hs hp (by simp)
        exact ⟨m + 1, by simp only [exec]; rw [hm (m + 1) (by omega) [] (by simp)]⟩
      · cases h
    | seq a b =>
      simp only [execO] at h
      split at h
      · rename_i t1 st1 ps1 os1 hs
        split at h
        · rename_i o2 t2 st2 ps2 os2 hs2
          cases h
          obtain ⟨h1, h2⟩ := allP_append hp
          obtain ⟨m1, e1⟩ := (execO_sound hs h1).at
          obtain ⟨m2, e2⟩ := (execO_sound hs2 h2).at
          refine ⟨max m1 m2 + 1, ?_⟩
          simp only [exec, cont2]
          rw [exec_mono (runF_mono (by omega)) (Nat.le_refl _) (e1 (max m1 m2) (by omega))]
          exact exec_mono (runF_mono (by omega)) (Nat.le_refl _) (e2 (max m1 m2) (by omega))
        · cases h
      · rename_i r hne
        cases ha : execO lp k n a t st os with
        | none => rw [ha] at h; cases h
        | some x =>
          obtain ⟨o1, t1, st1, ps1, os1⟩ := x
          rw [ha] at h
          cases h
          obtain ⟨m, e⟩ := (execO_sound ha hp).at
          refine ⟨m + 1, ?_⟩
          simp only [exec, cont2]
          rw [exec_mono (runF_mono (by omega)) (Nat.le_refl _) (e m (Nat.le_refl _))]
          cases o with
          | normal => exact absurd ha (hne _ _ _ _)
          | _ => rfl
    | cond x a b =>
      simp only [execO] at h
      split at h
      · rename_i c os1 _
        split at h
        · rename_i o1 t1 st1 ps1 os2 hs
          cases h
          have hx := hp _ (List.mem_cons_self ..)
          obtain ⟨m, e⟩ := (execO_sound hs (fun p hm => hp p (List.mem_cons_of_mem _ hm))).at
          refine ⟨m + 1, ?_⟩
          simp only [exec, hx]
          have := exec_mono (runF_mono (lp := lp) (show m ≤ m + 1 by omega)) (Nat.le_refl _) (e m (Nat.le_refl _))
          cases c <;> exact this
        · cases h
      · split at h
        · rename_i hx
          obtain ⟨m, e⟩ := (execO_sound h hp).at
          refine ⟨m + 1, ?_⟩
          simp only [exec, hx]
          exact exec_mono (runF_mono (by omega)) (Nat.le_refl _) (e m (Nat.le_refl _))
        · rename_i hx
          obtain ⟨m, e⟩ := (execO_sound h hp).at
          refine ⟨m + 1, ?_⟩
          simp only [exec, hx]
          exact exec_mono (runF_mono (by omega)) (Nat.le_refl _) (e m (Nat.le_refl _))
        · cases h
      · cases h
    | both x a b d =>
      simp only [execO] at h
      obtain ⟨m, e⟩ := (execO_sound h hp).at
      exact ⟨m + 1, exec_mono (runF_mono (by omega)) (Nat.le_refl _) (exec_both (e m (Nat.le_refl _)))⟩
    | block id mask a =>
      simp only [execO] at h
      have go : ∀ {o1 t1 st1 ps1 os1}, execO lp k n a t st os = some (o1, t1, st1, ps1, os1) → AllP ps1 → ∃ m, exec (runF lp (m + 1)) k m a t st = some (o1, t1, st1) := by
        intro o1 t1 st1 ps1 os1 hs hp1
        obtain ⟨m, e⟩ := (execO_sound hs hp1).at
        exact ⟨m, exec_mono (runF_mono (by omega)) (Nat.le_refl _) (e m (Nat.le_refl _))⟩
      split at h
      · rename_i i t1 st1 ps1 os1 hs
        split at h
        · rename_i hi
          cases h
          obtain ⟨m, e⟩ := go hs hp
          exact ⟨m + 1, by simp only [exec, e]; rw [if_pos hi]⟩
        · rename_i hi
          cases h
          obtain ⟨m, e⟩ := go hs hp
          exact ⟨m + 1, by simp only [exec, e]; rw [if_neg hi]⟩
      · rename_i t1 st1 ps1 os1 hs
        cases h
        obtain ⟨m, e⟩ := go hs hp
        exact ⟨m + 1, by simp only [exec, e]⟩
      · rename_i r hne1 hne2
        cases ha : execO lp k n a t st os with
        | none => rw [ha] at h; cases h
        | some x =>
          obtain ⟨o1, t1, st1, ps1, os1⟩ := x
          rw [ha] at h
          cases h
          obtain ⟨m, e⟩ := go ha hp
          refine ⟨m + 1, ?_⟩
          simp only [exec, e]
          cases o with
          | normal => exact absurd ha (hne2 _ _ _ _)
          | exit i => exact absurd ha (hne1 _ _ _ _ _)
          | ret => rfl
    | loop mask a =>
      simp only [execO] at h
      split at h
      · rename_i out t1 st1 os1 _
        split at h
        · rename_i t0 st0 hg
          cases h
          obtain ⟨m, hm⟩ := hp _ (List.mem_singleton.2 rfl)
          refine ⟨m + 1, ?_⟩
          simp only [exec, hg]
          cases he : exec (runF lp m) k m a t0 st0 with
          | none => rw [he] at hm; cases hm
          | some x =>
            obtain ⟨o2, t2, st2⟩ := x
            rw [he] at hm
            rw [exec_mono (runF_mono (show m ≤ m + 1 by omega)) (Nat.le_refl _) he]
            cases o2 with
            | normal => exact exec_mono (runF_mono (by omega)) (Nat.le_refl _) hm
            | _ => exact hm
        · cases h
      · cases h
        have hg := hp _ (List.mem_cons_self ..)
        rename_i t0 st0 _
        obtain ⟨m, hm⟩ := hp _ (List.mem_cons_of_mem _ (List.mem_singleton.2 rfl))
        refine ⟨m + 1, ?_⟩
        simp only [exec, hg]
        cases he : exec (runF lp m) k m a t0 st0 with
        | none => rw [he] at hm; cases hm
        | some x =>
          obtain ⟨o2, t2, st2⟩ := x
          rw [he] at hm
          rw [exec_mono (runF_mono (show m ≤ m + 1 by omega)) (Nat.le_refl _) he]
          cases o2 with
          | normal => exact exec_mono (runF_mono (by omega)) (Nat.le_refl _) hm
          | _ => exact hm
      · cases h
end Go.LS
set_option linter.unusedVariables false
set_option linter.unusedSimpArgs false
namespace Go.LS
def Conj : List Prop → Prop
  | [] => True
  | p :: r => p ∧ Conj r
theorem Conj.all : ∀ {ps : List Prop}, Conj ps → AllP ps
  | [], _, p, hp => by cases hp
  | q :: r, h, p, hp => by
    rcases List.mem_cons.1 hp with rfl | hp
    · exact h.1
    · exact h.2.all p hp
def runO (lp : LProg) (N : Nat) (f : FuncId) (args : List LV) (st : List LObj) (os : Os) : Option (LV × List LObj × List Prop) :=
  match lp.summ f with
  | some _ => none
  | none => match lp.fns f with
    | none => none
    | some lf => match execO lp st.length N lf.body (wk (lp.weak f) args ++ List.replicate (lf.ntmps - args.length) .und) st os with
      | some (.exit _, _, _, _, _) => none
      | some (_, t', st', ps, _) => match evRes t' st' lf.results with
        | some vs => match frz (lp.wres f) st' vs with
          | (vs, st') => (match gc st.length vs st' with
            | some (vs', st'') => some (oneRes vs', st'', ps)
            | none => none)
        | none => none
      | none => none
theorem runO_sound {lp : LProg} {N : Nat} {f : FuncId} {args : List LV} {st st' : List LObj} {os : Os} {v : LV} {ps : List Prop} (h : runO lp N f args st os = some (v, st', ps)) (hp : Conj ps) : Runs lp f args st (v, st') := by
  unfold runO at h
  split at h
  · cases h
  · rename_i hsm
    split at h
    · cases h
    · rename_i lf hlf
      split at h
      · cases h
      · rename_i out t1 st1 ps1 os1 hne hex
        split at h
        · rename_i vs hvs
          dsimp only at h
          split at h
          · rename_i vs' st2 hgc
            simp only [Option.some.injEq, Prod.mk.injEq] at h
            obtain ⟨rfl, rfl, rfl⟩ := h
            obtain ⟨n, hn⟩ := execO_sound hex hp.all
            refine ⟨n + 1, ?_⟩
            simp only [runF, hsm, hlf, hn]
            cases out with
            | exit i => exact (hne i rfl).elim
            | normal => simp only [hvs, hgc]
            | ret => simp only [hvs, hgc]
          · cases h
        · cases h
      · cases h
def roundO (lp : LProg) (N k : Nat) (mask : List Bool) (c : LCode) (t : List LV) (st : List LObj) (os : Os) : Option (LOut × List LV × List LObj × List Prop) :=
  match execO lp k N c t st os with
  | some (.normal, t', st', ps, _) => match gc k (kill mask t') st' with
    | some (t'', st'') => some (.normal, t'', st'', ps)
    | none => none
  | some (o, t', st', ps, _) => some (o, t', st', ps)
  | none => none
theorem LoopAt.on {lp : LProg} {N k : Nat} {mask : List Bool} {c : LCode} {t t' : List LV} {st st' : List LObj} {os : Os} {ps : List Prop} {r : LOut × List LV × List LObj}
    (h : roundO lp N k mask c t st os = some (.normal, t', st', ps)) (hp : Conj ps) (hr : LoopAt lp k mask c t' st' r) : LoopAt lp k mask c t st r := by
  unfold roundO at h
  split at h
  · rename_i t1 st1 ps1 os1 hex
    split at h
    · rename_i t2 st2 hg
      simp only [Option.some.injEq, Prod.mk.injEq, true_and] at h
      obtain ⟨rfl, rfl, rfl⟩ := h
      obtain ⟨n, hn⟩ := (execO_sound hex hp.all).at
      obtain ⟨m, hm⟩ := hr
      refine ⟨max n m + 1, ?_⟩
      rw [hn (max n m + 1) (by omega)]
      simp only [exec, hg]
      cases he : exec (runF lp m) k m c t2 st2 with
      | none => rw [he] at hm; cases hm
      | some x =>
        obtain ⟨o2, t3, st3⟩ := x
        rw [he] at hm
        rw [exec_mono (runF_mono (show m ≤ max n m + 1 by omega)) (show m ≤ max n m by omega) he]
        cases o2 with
        | normal => exact exec_mono (runF_mono (by omega)) (by omega) hm
        | _ => exact hm
    · cases h
  · rename_i hne hex
    simp only [Option.some.injEq, Prod.mk.injEq] at h
    obtain ⟨rfl, rfl, rfl, rfl⟩ := h
    exact (hne rfl).elim
  · cases h
theorem LoopAt.out {lp : LProg} {N k : Nat} {mask : List Bool} {c : LCode} {t t' : List LV} {st st' : List LObj} {os : Os} {ps : List Prop} {o : LOut}
    (h : roundO lp N k mask c t st os = some (o, t', st', ps)) (ho : (match o with | .normal => false | _ => true) = true) (hp : Conj ps) : LoopAt lp k mask c t st (o, t', st') := by
  unfold roundO at h
  split at h
  · split at h
    · cases h; cases ho
    · cases h
  · rename_i o1 t1 st1 ps1 os1 hne hex
    simp only [Option.some.injEq, Prod.mk.injEq] at h
    obtain ⟨rfl, rfl, rfl, rfl⟩ := h
    obtain ⟨n, hn⟩ := execO_sound hex hp.all
    refine ⟨n, ?_⟩
    rw [hn]
    cases o1 with
    | normal => cases ho
    | _ => rfl
  · cases h
def loopsOf : LCode → List (List Bool × LCode)
  | .seq a b => loopsOf a ++ loopsOf b
  | .cond _ a b => loopsOf a ++ loopsOf b
  | .both _ a b c => loopsOf a ++ loopsOf b ++ loopsOf c
  | .block _ _ c => loopsOf c
  | .loop m c => (m, c) :: loopsOf c
  | _ => []
def loopNo (lf : LFn) (i : Nat) : List Bool × LCode := (loopsOf lf.body).getD i ([], .skip)
def tl (i : Nat) : Nat → List (Nat × LV) → List LV
  | 0, _ => []
  | n + 1, [] => .und :: tl (i + 1) n []
  | n + 1, (j, v) :: r => match Nat.beq i j with
    | true => v :: tl (i + 1) n r
    | false => .und :: tl (i + 1) n ((j, v) :: r)
abbrev OpW (st : List LObj) (op : LOp) (v : LV) (st' : List LObj) : Prop := opStep noCall [] st op = some (v, st')
abbrev LoopN (lp : LProg) (k : Nat) (x : List Bool × LCode) (t : List LV) (st : List LObj) (r : LOut × List LV × List LObj) : Prop := LoopAt lp k x.1 x.2 t st r
def oO {st st' : List LObj} {op : LOp} {v : LV} (_ : OpW st op v st') : Orc := .op v st'
def oC {lp : LProg} {f : Nat} {as : List LV} {st st' : List LObj} {v : LV} (_ : Runs lp f as st (v, st')) : Orc := .call v st'
def oZ {lp : LProg} {f : Nat} {as : List LV} {st st' : List LObj} {v : LV} (_ : RunsZ lp f as st (v, st')) : Orc := .call v st'
def oL {lp : LProg} {k : Nat} {x : List Bool × LCode} {t t' : List LV} {st st' : List LObj} {o : LOut} (_ : LoopN lp k x t st (o, t', st')) : Orc := .lp o t' st'
theorem cI {b c : Bool} (h : b = c) : LV.p (PV.bool b) = .p (.bool c) := congrArg (fun b => LV.p (PV.bool b)) h
theorem iteT {lp : LProg} {f : FuncId} {a : List LV} {s : List LObj} {c : Bool} {x y : LV × List LObj} (h : Runs lp f a s (if c = true then x else y)) (hc : c = true) : Runs lp f a s x := by rwa [if_pos hc] at h
theorem iteF {lp : LProg} {f : FuncId} {a : List LV} {s : List LObj} {c : Bool} {x y : LV × List LObj} (h : Runs lp f a s (if c = true then x else y)) (hc : c = false) : Runs lp f a s y := by rwa [if_neg (by simp [hc])] at h
theorem infE {k a b : Int} {r : Bool} (h : (k == a) = true) (g : (a == b) = r) : (k == b) = r := by rw [eq_of_beq h]; exact g
theorem infL {k a b : Int} {r : Bool} (h : (k == a) = true) (g : decide (a < b) = r) : decide (k < b) = r := by rw [eq_of_beq h]; exact g
theorem infLe {k a b : Int} {r : Bool} (h : (k == a) = true) (g : decide (a ≤ b) = r) : decide (k ≤ b) = r := by rw [eq_of_beq h]; exact g
theorem infG {k a b : Int} {r : Bool} (h : (k == a) = true) (g : decide (a > b) = r) : decide (k > b) = r := by rw [eq_of_beq h]; exact g
theorem infGe {k a b : Int} {r : Bool} (h : (k == a) = true) (g : decide (a ≥ b) = r) : decide (k ≥ b) = r := by rw [eq_of_beq h]; exact g
theorem notI {b c : Bool} (h : b = c) : (!b) = !c := by rw [h]
end Go.LS
namespace Go.LS
def runE (lp : LProg) (N : Nat) (f : FuncId) (args : List LV) (st : List LObj) (os : Os) : Option (List LV × List LObj × List Prop) :=
  match lp.summ f with
  | some _ => none
  | none => match lp.fns f with
    | none => none
    | some lf => match execO lp st.length N lf.body (wk (lp.weak f) args ++ List.replicate (lf.ntmps - args.length) .und) st os with
      | some (.exit _, _, _, _, _) => none
      | some (_, t', st', ps, _) => match evRes t' st' lf.results with
        | some vs => some (vs, st', ps)
        | none => none
      | none => none
theorem runE_sound {lp : LProg} {N : Nat} {f : FuncId} {args : List LV} {st st1 s1 st2 : List LObj} {os : Os} {vs vs1 vs2 : List LV} {ps : List Prop} (h : runE lp N f args st os = some (vs, st1, ps)) (hp : Conj ps)
    (hf : frz (lp.wres f) st1 vs = (vs1, s1)) (hg : gc st.length vs1 s1 = some (vs2, st2)) : Runs lp f args st (oneRes vs2, st2) := by
  unfold runE at h
  split at h
  · cases h
  · rename_i hsm
    split at h
    · cases h
    · rename_i lf hlf
      split at h
      · cases h
      · rename_i out t1 st1' ps1 os1 hne hex
        split at h
        · rename_i vs' hvs
          simp only [Option.some.injEq, Prod.mk.injEq] at h
          obtain ⟨rfl, rfl, rfl⟩ := h
          obtain ⟨n, hn⟩ := execO_sound hex hp.all
          refine ⟨n + 1, ?_⟩
          simp only [runF, hsm, hlf, hn]
          cases out with
          | exit i => exact (hne i rfl).elim
          | normal => simp only [hvs, hf, hg]
          | ret => simp only [hvs, hf, hg]
        · cases h
      · cases h
def roundE (lp : LProg) (N k : Nat) (mask : List Bool) (c : LCode) (t : List LV) (st : List LObj) (os : Os) : Option (List LV × List LObj × List Prop) :=
  match execO lp k N c t st os with
  | some (.normal, t', st', ps, _) => some (kill mask t', st', ps)
  | _ => none
theorem LoopAt.onS {lp : LProg} {N k : Nat} {mask : List Bool} {c : LCode} {t t1 t' : List LV} {st st1 st' : List LObj} {os : Os} {ps : List Prop} {r : LOut × List LV × List LObj}
    (h : roundE lp N k mask c t st os = some (t1, st1, ps)) (hp : Conj ps) (hg : gc k t1 st1 = some (t', st')) (hr : LoopAt lp k mask c t' st' r) : LoopAt lp k mask c t st r := by
  unfold roundE at h
  split at h
  · rename_i t2 st2 ps1 os1 hex
    simp only [Option.some.injEq, Prod.mk.injEq] at h
    obtain ⟨rfl, rfl, rfl⟩ := h
    obtain ⟨n, hn⟩ := (execO_sound hex hp.all).at
    obtain ⟨m, hm⟩ := hr
    refine ⟨max n m + 1, ?_⟩
    rw [hn (max n m + 1) (by omega)]
    simp only [exec, hg]
    cases he : exec (runF lp m) k m c t' st' with
    | none => rw [he] at hm; cases hm
    | some x =>
      obtain ⟨o2, t3, st3⟩ := x
      rw [he] at hm
      rw [exec_mono (runF_mono (show m ≤ max n m + 1 by omega)) (show m ≤ max n m by omega) he]
      cases o2 with
      | normal => exact exec_mono (runF_mono (by omega)) (by omega) hm
      | _ => exact hm
  · cases h
theorem refs_at {st sh : List LObj} (hr : st.map LObj.refs = sh.map LObj.refs) (o : Nat) : ((st[o]?).getD .dead).refs = ((sh[o]?).getD .dead).refs := by
  have h : (st.map LObj.refs)[o]? = (sh.map LObj.refs)[o]? := by rw [hr]
  rw [List.getElem?_map, List.getElem?_map] at h
  cases h1 : st[o]? with
  | none => cases h2 : sh[o]? with
    | none => rfl
    | some y => rw [h1, h2] at h; cases h
  | some x => cases h2 : sh[o]? with
    | none => rw [h1, h2] at h; cases h
    | some y => rw [h1, h2] at h; simpa using h
theorem reach_sh {st sh : List LObj} (hr : st.map LObj.refs = sh.map LObj.refs) : ∀ (n : Nat) (todo acc : List Nat), reach st n todo acc = reach sh n todo acc := by
  intro n
  induction n with
  | zero => intro todo acc; cases todo <;> rfl
  | succ n ih =>
    intro todo acc
    cases todo with
    | nil => rfl
    | cons o r => simp only [reach, ih, refs_at hr o]
theorem closed_sh {st sh : List LObj} (hr : st.map LObj.refs = sh.map LObj.refs) (ids : List Nat) : closed st ids = closed sh ids := by
  have hl : st.length = sh.length := by have := congrArg List.length hr; simpa using this
  unfold closed
  rw [hl]
  congr 1
  funext o
  rw [refs_at hr o]
def gcSh (k : Nat) (vs : List LV) (st : List LObj) : Option (List LV × List Nat) :=
  let ids := gcIds k st (vs.flatMap LV.refs)
  if closed st ids && (vs.flatMap LV.refs).all (ids.contains ·) && decide ids.Nodup && decide (ids.take k = List.range k) then
    some (vs.map (LV.ren fun q => ids.idxOf q), ids)
  else none
theorem gc_sh {k : Nat} {vs vs' : List LV} {st sh st' : List LObj} {ids : List Nat} (hr : st.map LObj.refs = sh.map LObj.refs) (hc : gcSh k vs sh = some (vs', ids)) (hs : sub st ids = st') : gc k vs st = some (vs', st') := by
  have e : gcIds k st (vs.flatMap LV.refs) = gcIds k sh (vs.flatMap LV.refs) := by
    unfold gcIds
    rw [reach_sh hr]
    congr 2
    have : ∀ l : List LObj, l.flatMap LObj.refs = (l.map LObj.refs).flatten := fun l => by rw [List.flatMap_def]
    rw [this, this, List.map_take, List.map_take, hr]
  unfold gcSh at hc
  unfold gc
  simp only at hc ⊢
  rw [e, closed_sh hr]
  split at hc
  · rename_i h
    rw [if_pos h]
    simp only [Option.some.injEq, Prod.mk.injEq] at hc
    obtain ⟨rfl, h2⟩ := hc
    rw [← h2] at hs
    rw [hs]
  · cases hc
end Go.LS
set_option linter.unusedVariables false
set_option linter.unusedSimpArgs false
namespace Go.LS
theorem unb_byte (b : UInt8) : unb [.int .u8 b.toNat] = some b := by simp [unb]
theorem unbs_bs : ∀ (L : List UInt8), unbs (bs L) = some L
  | [] => rfl
  | b :: r => by
    have := unbs_bs r
    simp only [bs] at this
    simp [bs, unbs, unb_byte, this]
theorem opIs_b2s {v : LV} {L : List UInt8} {st : List LObj} (h : v.asSl = some (bs L)) : opStep noCall [] st (.cv .b2s (.const v)) = some (.p (.str L), st) := by
  have : lcv .b2s v = some (.str L) := by
    cases v <;> simp only [LV.asSl] at h <;> first | (cases h; done) | skip
    case p v =>
      cases v <;> simp only [LV.asSl] at h <;> first | (cases h; done) | skip
      cases h; simp [lcv, LV.asSl, unbs_bs]
    case sl es t f => cases h; simp [lcv, LV.asSl, unbs_bs]
    case tight es => cases h; simp [lcv, LV.asSl, unbs_bs]
  simp [opStep, LX.ev, this]
theorem bs_len (L : List UInt8) : (bs L).length = L.length := by simp [bs]
theorem bs_append (L M : List UInt8) : bs (L ++ M) = bs L ++ bs M := by simp [bs]
theorem bs_sized (L : List UInt8) : sized 1 (bs L) = true := by simp [sized, bs]
theorem bs_empty (M : List UInt8) : (bs M).isEmpty = M.isEmpty := by cases M <;> rfl
theorem byte_bs {e : Int} (h0 : 0 ≤ e) (h1 : e ≤ 255) : [[PV.int .u8 e]] = bs [UInt8.ofNat e.toNat] := by
  simp [bs]
  omega
theorem opIs_appS {str : Bool} {L M : List UInt8} {es : List (List PV)} {t : Nat} {st : List LObj} {x : LV} (hs : st[t]? = some (.spare 1 L.length)) (hx : appended str st x = some es) (he : es = bs M)
    (hl : L.length + M.length ≤ 200000000000000) : opStep noCall [] st (.append str 1 1 (.const (.sl (bs L) t L.length)) (.const x)) = some (.sl (bs (L ++ M)) t (L ++ M).length, st.set t (.spare 1 (L ++ M).length)) := by
  subst he
  refine orA_of ?_
  simp only [LX.ev, lappend, hx, bs_sized, hs, bs_empty, bs_len]
  by_cases hM : M.isEmpty = true
  · have : M = [] := by simpa using hM
    subst this
    simp
    obtain ⟨h1, h2⟩ := List.getElem?_eq_some_iff.1 hs
    conv => rhs; rw [← h2]
    simp
  · simp only [hM]
    simp [bs_append, maxLen, roomy1 hl]
    omega
theorem opIs_appT {str : Bool} {L M : List UInt8} {es es0 : List (List PV)} {st : List LObj} {x : LV} (he0 : es0 = bs L) (hx : appended str st x = some es) (he : es = bs M) (hM : M ≠ [])
    (hl : L.length + M.length ≤ 200000000000000) : opStep noCall [] st (.append str 1 1 (.const (.tight es0)) (.const x)) = some (.sl (bs (L ++ M)) st.length (L ++ M).length, st ++ [.spare 1 (L ++ M).length]) := by
  subst he he0
  have : M.isEmpty = false := by cases M <;> simp_all
  refine orA_of ?_
  simp only [LX.ev, lappend, hx, bs_sized, bs_empty, bs_len, this]
  simp [bs_append, maxLen, roomy1 hl]
  omega
def vcode (u : Nat) : List UInt8 := if u < 128 then [UInt8.ofNat u] else UInt8.ofNat (u % 128 + 128) :: vcode (u / 128)
termination_by u
decreasing_by omega
theorem vcode_len : ∀ (u : Nat), u < 2 ^ 64 → (vcode u).length ≤ 10 := by
  have key : ∀ k u, u < 128 ^ (k + 1) → (vcode u).length ≤ k + 1 := by
    intro k
    induction k with
    | zero => intro u hu; rw [vcode]; simp at hu; simp [hu]
    | succ k ih =>
      intro u hu
      rw [vcode]
      split
      · simp
      · simp only [List.length_cons]
        have := ih (u / 128) (by rw [Nat.div_lt_iff_lt_mul (by omega)]; rw [Nat.pow_succ] at hu; exact hu)
        omega
  intro u hu
  exact key 9 u (Nat.lt_of_lt_of_le hu (by decide))
end Go.LS
namespace Go.LS
theorem wrap_u8_range (n : Int) : 0 ≤ IntKind.wrap .u8 n ∧ IntKind.wrap .u8 n ≤ 255 := by
  simp only [IntKind.wrap, IntKind.bits, IntKind.signed]
  simp
  omega
theorem wrap_u8_bs (n : Int) : [[PV.int .u8 (IntKind.wrap .u8 n)]] = bs [UInt8.ofNat (IntKind.wrap .u8 n).toNat] := byte_bs (wrap_u8_range n).1 (wrap_u8_range n).2
end Go.LS
namespace Go.LS
theorem opIs_s2b {s : List UInt8} {st : List LObj} (h : s.length ≤ 140737488355328) : opStep noCall [] st (.cv .s2b (.const (.p (.str s)))) = some (.p (.sl (bs s)), st) := by
  simp [opStep, LX.ev, lcv, h]
theorem wrap_u64_nat {n : Nat} (h : n < 2 ^ 64) : IntKind.wrap .u64 (n : Int) = (n : Int) := by
  simp only [IntKind.wrap, IntKind.bits, IntKind.signed]
  simp
  omega
theorem wrap_u64 (n : Int) : IntKind.wrap .u64 n = n % 18446744073709551616 := by
  simp only [IntKind.wrap, IntKind.bits, IntKind.signed]
  simp
theorem wrap_i64 {n : Int} (h0 : -9223372036854775808 ≤ n) (h1 : n ≤ 9223372036854775807) : IntKind.wrap .i64 n = n := by
  simp only [IntKind.wrap, IntKind.bits, IntKind.signed]
  simp
  omega
end Go.LS
namespace Go.LS
theorem bs_all (L : List UInt8) (n : Nat) (h : n = 1) : ((bs L).all fun e => e.length == n) = true := by subst h; simp [bs]
theorem bs_take (L : List UInt8) (k : Nat) : bs (L.take k) = (bs L).take k := by simp [bs, List.map_take]
theorem bs_drop (L : List UInt8) (k : Nat) : bs (L.drop k) = (bs L).drop k := by simp [bs, List.map_drop]
theorem opIs_sliceTake {M : List UInt8} {t n k j : Nat} {st : List LObj} (hj : k = j) (hk : k < M.length) :
    opStep noCall [] st (.slice 1 (.const (.sl (bs M) t n)) none (some (.const (.p (.int .i64 ((k : Nat) : Int))))) none) = some (.p (.sl (bs (M.take j))), st) := by
  subst hj
  have h1 : (k : Int) ≤ (M.length : Int) := by omega
  have h2 : ¬ (k = M.length) := by omega
  simp [opStep, LX.ev, rslice, LV.asSl, bs_all, lslice, bnd, bs_len, h1, h2, bs_take]
theorem opIs_sliceAll {M : List UInt8} {t n k : Nat} {st : List LObj} (hj : k = M.length) (hk : 0 < M.length) :
    opStep noCall [] st (.slice 1 (.const (.sl (bs M) t n)) none (some (.const (.p (.int .i64 ((k : Nat) : Int))))) none) = some (.sl (bs M) t n, st) := by
  subst hj
  have h0 : M ≠ [] := by intro h; subst h; simp at hk
  simp [opStep, LX.ev, rslice, LV.asSl, bs_all, lslice, bnd, bs_len, hk, h0]
theorem ofNat8_inj {a b : Nat} (ha : a < 256) (hb : b < 256) (h : UInt8.ofNat a = UInt8.ofNat b) : a = b := by
  have := congrArg UInt8.toNat h
  simp [UInt8.toNat_ofNat'] at this
  omega
theorem vcode_pos (u : Nat) : 0 < (vcode u).length := by rw [vcode]; split <;> simp
theorem vcode_lo {u : Nat} (h : u < 128) : vcode u = [UInt8.ofNat u] := by rw [vcode, if_pos h]
theorem vcode_hi {u : Nat} (h : ¬ u < 128) : vcode u = UInt8.ofNat (u % 128 + 128) :: vcode (u / 128) := by rw [vcode, if_neg h]
theorem vcode_prefix : ∀ (u w : Nat), (vcode w).take (vcode u).length = vcode u → u = w := by
  intro u
  induction u using Nat.strongRecOn with
  | _ u ih =>
    intro w h
    by_cases hu : u < 128 <;> by_cases hw : w < 128
    · rw [vcode_lo hu, vcode_lo hw] at h
      simp only [List.length_cons, List.length_nil, List.take_succ_cons, List.cons.injEq] at h
      exact (ofNat8_inj (by omega) (by omega) h.1).symm
    · rw [vcode_lo hu, vcode_hi hw] at h
      simp only [List.length_cons, List.length_nil, List.take_succ_cons, List.cons.injEq] at h
      have := ofNat8_inj (by omega) (by omega) h.1
      omega
    · rw [vcode_hi hu, vcode_lo hw] at h
      have hp := vcode_pos (u / 128)
      simp only [List.length_cons, List.take_succ_cons, List.cons.injEq, List.take_nil] at h
      rw [← h.2] at hp
      simp at hp
    · rw [vcode_hi hu, vcode_hi hw] at h
      simp only [List.length_cons, List.take_succ_cons, List.cons.injEq] at h
      have h1 := ofNat8_inj (by omega) (by omega) h.1
      have h2 := ih (u / 128) (by omega) (w / 128) h.2
      omega
end Go.LS
namespace Go.LS
theorem opIs_idx {v : LV} {L : List UInt8} {i : Nat} {c : UInt8} {st : List LObj} (hv : v.asSl = some (bs L)) (hr : v.isRs = false) (h : L[i]? = some c) :
    opStep noCall [] st (.indexAddr 1 (.const v) (.const (.p (.int .i64 ((i : Nat) : Int))))) = some (.pin [.int .u8 c.toNat] 0, st) := by
  have hb : (bs L)[i]? = some [.int .u8 c.toNat] := by simp [bs, h]
  have h0 : ¬ ((i : Int) < 0) := by omega
  cases v <;> simp only [LV.isRs, Bool.true_eq_false] at hr <;> simp only [LV.asSl] at hv <;> first | (cases hv; done) | skip
  all_goals simp [opStep, LX.ev, LV.asInt, LV.asSl, hv, hb, h0]
end Go.LS
namespace Go.LS
theorem opIs_sliceFrom {M : List UInt8} {t n k : Nat} {st : List LObj} (hk : k < M.length) :
    opStep noCall [] st (.slice 1 (.const (.sl (bs M) t n)) (some (.const (.p (.int .i64 ((k : Nat) : Int))))) none none) = some (.sl (bs (M.drop k)) t n, st) := by
  have h1 : (k : Int) ≤ (M.length : Int) := by omega
  simp [opStep, LX.ev, rslice, LV.asSl, bs_all, lslice, bnd, bs_len, h1, hk, bs_drop]
theorem opIs_sliceEnd {M : List UInt8} {t n k : Nat} {st : List LObj} (hk : k = M.length) :
    opStep noCall [] st (.slice 1 (.const (.sl (bs M) t n)) (some (.const (.p (.int .i64 ((k : Nat) : Int))))) none none) = some (.p (.sl []), st) := by
  subst hk
  simp [opStep, LX.ev, rslice, LV.asSl, bs_all, lslice, bnd, bs_len]
theorem opIs_idxD {v : LV} {L : List UInt8} {i : Nat} {st : List LObj} (hv : v.asSl = some (bs L)) (hr : v.isRs = false) (h : i < L.length) :
    opStep noCall [] st (.indexAddr 1 (.const v) (.const (.p (.int .i64 ((i : Nat) : Int))))) = some (.pin [.int .u8 ((L.getD i 0).toNat : Int)] 0, st) := by
  rw [opIs_idx hv hr (c := L.getD i 0) (by simp [List.getD, h])]
theorem opIs_idxI {v : LV} {L : List UInt8} {i : Int} {st : List LObj} (hv : v.asSl = some (bs L)) (hr : v.isRs = false) (h0 : 0 ≤ i) (h : i < (L.length : Int)) :
    opStep noCall [] st (.indexAddr 1 (.const v) (.const (.p (.int .i64 i)))) = some (.pin [.int .u8 ((L.getD i.toNat 0).toNat : Int)] 0, st) := by
  obtain ⟨n, rfl⟩ := Int.eq_ofNat_of_zero_le h0
  exact opIs_idxD hv hr (by omega)
theorem bnd_some {y : Nat} {k : IntKind} {n : Int} {d : Nat} (h0 : 0 ≤ n) (h : n ≤ y) : bnd y (some (.p (.int k n))) d = some n.toNat := by simp [bnd, h0, h]
theorem opIs_slicePD {M : List UInt8} {k : IntKind} {lo : Int} {st : List LObj} (h0 : 0 ≤ lo) (h : lo ≤ (M.length : Int)) :
    opStep noCall [] st (.slice 1 (.const (.p (.sl (bs M)))) (some (.const (.p (.int k lo)))) none none) = some (.p (.sl (bs (M.drop lo.toNat))), st) := by
  have e : (bs M).take (bs M).length = bs M := List.take_length
  have e2 : (bs M).take M.length = bs M := by rw [← bs_len M]; exact e
  simp [opStep, LX.ev, rslice, LV.asSl, bs_all, lslice, bnd, bs_len, h0, h, bs_drop, e2]
theorem opIs_slicePT {M : List UInt8} {k : IntKind} {hi : Int} {st : List LObj} (h0 : 0 ≤ hi) (h : hi ≤ (M.length : Int)) :
    opStep noCall [] st (.slice 1 (.const (.p (.sl (bs M)))) none (some (.const (.p (.int k hi)))) none) = some (.p (.sl (bs (M.take hi.toNat))), st) := by
  simp [opStep, LX.ev, rslice, LV.asSl, bs_all, lslice, bnd, bs_len, h0, h, bs_take]
  split
  · rename_i v hv
    split at hv
    · rename_i h1
      cases hv
      rw [h1.1, ← bs_len M, List.take_length]
    · cases hv; rfl
  · rename_i hv; split at hv <;> cases hv
theorem opIs_sliceP2 {M : List UInt8} {k j : IntKind} {lo hi : Int} {st : List LObj} (h0 : 0 ≤ lo) (h1 : lo ≤ hi) (h : hi ≤ (M.length : Int)) :
    opStep noCall [] st (.slice 1 (.const (.p (.sl (bs M)))) (some (.const (.p (.int k lo)))) (some (.const (.p (.int j hi)))) none) = some (.p (.sl (bs ((M.take hi.toNat).drop lo.toNat))), st) := by
  have hh : 0 ≤ hi := by omega
  have hl : lo ≤ ((hi.toNat : Nat) : Int) := by omega
  have hl2 : lo ≤ max hi 0 := by omega
  simp [opStep, LX.ev, rslice, LV.asSl, bs_all, lslice, bnd, bs_len, h0, hh, hl, hl2, h, bs_take, bs_drop]
  split
  · rename_i v hv
    split at hv
    · rename_i h1
      cases hv
      rw [h1.1, ← bs_len M, List.take_length]
    · cases hv; rfl
  · rename_i hv; split at hv <;> cases hv
theorem opIs_sliceStrD {M : List UInt8} {k : IntKind} {lo : Int} {st : List LObj} (h0 : 0 ≤ lo) (h : lo ≤ (M.length : Int)) :
    opStep noCall [] st (.sslice (.const (.p (.str M))) (some (.const (.p (.int k lo)))) none none) = some (.p (.str (M.drop lo.toNat)), st) := by
  simp [opStep, LX.ev, lslice, bnd, h0, h]
theorem opIs_sliceStrT {M : List UInt8} {k : IntKind} {hi : Int} {st : List LObj} (h0 : 0 ≤ hi) (h : hi ≤ (M.length : Int)) :
    opStep noCall [] st (.sslice (.const (.p (.str M))) none (some (.const (.p (.int k hi)))) none) = some (.p (.str (M.take hi.toNat)), st) := by
  simp [opStep, LX.ev, lslice, bnd, h0, h]
theorem opIs_sliceStr2 {M : List UInt8} {k j : IntKind} {lo hi : Int} {st : List LObj} (h0 : 0 ≤ lo) (h1 : lo ≤ hi) (h : hi ≤ (M.length : Int)) :
    opStep noCall [] st (.sslice (.const (.p (.str M))) (some (.const (.p (.int k lo)))) (some (.const (.p (.int j hi)))) none) = some (.p (.str ((M.take hi.toNat).drop lo.toNat)), st) := by
  have hh : 0 ≤ hi := by omega
  have hl : lo ≤ ((hi.toNat : Nat) : Int) := by omega
  have hl2 : lo ≤ max hi 0 := by omega
  simp [opStep, LX.ev, lslice, bnd, h0, hh, hl, hl2, h]
theorem opIs_shl {k j : IntKind} {a b : Int} {st : List LObj} (h : 0 ≤ b) :
    opStep noCall [] st (.bin .shl (.const (.p (.int k a))) (.const (.p (.int j b)))) = some (.p (.int k (IntKind.wrap k (a * 2 ^ min (Int.toNat b) k.bits))), st) := by
  have h0 : ¬ b < 0 := by omega
  simp [opStep, LX.ev, lbin, h0]
theorem iteP {c : Prop} [Decidable c] {a b : Prop} (h : if c then a else b) (k : c) : a := by rwa [if_pos k] at h
theorem iteN {c : Prop} [Decidable c] {a b : Prop} (h : if c then a else b) (k : ¬ c) : b := by rwa [if_neg k] at h
theorem iteRP {lp : LProg} {f : FuncId} {args : List LV} {st : List LObj} {c : Prop} [Decidable c] {a b : LV × List LObj} (k : c) (h : Runs lp f args st a) : Runs lp f args st (if c then a else b) := by rwa [if_pos k]
theorem iteRN {lp : LProg} {f : FuncId} {args : List LV} {st : List LObj} {c : Prop} [Decidable c] {a b : LV × List LObj} (k : ¬ c) (h : Runs lp f args st b) : Runs lp f args st (if c then a else b) := by rwa [if_neg k]
theorem opIs_idxE {v : LV} {E : List (List PV)} {e : List PV} {z : Nat} {i : Nat} {st : List LObj} (hv : v.asSl = some E) (hr : v.isRs = false) (h : E[i]? = some e) (hz : e.length = z) :
    opStep noCall [] st (.indexAddr z (.const v) (.const (.p (.int .i64 ((i : Nat) : Int))))) = some (.pin e 0, st) := by
  have h0 : ¬ ((i : Int) < 0) := by omega
  cases v <;> simp only [LV.isRs, Bool.true_eq_false] at hr <;> simp only [LV.asSl] at hv <;> first | (cases hv; done) | skip
  all_goals simp [opStep, LX.ev, LV.asInt, LV.asSl, hv, h, h0, hz]
theorem wrap_u8_bs4 (a b c d : Int) : [[PV.int .u8 (IntKind.wrap .u8 a)], [PV.int .u8 (IntKind.wrap .u8 b)], [PV.int .u8 (IntKind.wrap .u8 c)], [PV.int .u8 (IntKind.wrap .u8 d)]] =
    bs [UInt8.ofNat (IntKind.wrap .u8 a).toNat, UInt8.ofNat (IntKind.wrap .u8 b).toNat, UInt8.ofNat (IntKind.wrap .u8 c).toNat, UInt8.ofNat (IntKind.wrap .u8 d).toNat] := by
  have h := wrap_u8_bs
  simp only [bs, List.map_cons, List.map_nil, List.cons.injEq, and_true] at h ⊢
  exact ⟨h a, h b, h c, h d⟩
end Go.LS
set_option linter.unusedVariables false
set_option linter.unusedSimpArgs false
namespace Go.LS
theorem opIs_idxEI {v : LV} {E : List (List PV)} {e : List PV} {z : Nat} {i : Int} {st : List LObj} (hv : v.asSl = some E) (hr : v.isRs = false) (h0 : 0 ≤ i) (h : E[i.toNat]? = some e) (hz : e.length = z) :
    opStep noCall [] st (.indexAddr z (.const v) (.const (.p (.int .i64 i)))) = some (.pin e 0, st) := by
  obtain ⟨n, rfl⟩ := Int.eq_ofNat_of_zero_le h0
  exact opIs_idxE hv hr h hz
theorem opIs_appTE {size bytes : Nat} {E X : List (List PV)} {st : List LObj} {x : LV} (hx : appended false st x = some X) (hE : sized size E = true) (hX : sized size X = true) (hne : X ≠ [])
    (hb : (E.length + X.length) * bytes ≤ 140737488355328) (hm : E.length + X.length ≤ 9223372036854775807) (h0 : 0 < size) :
    opStep noCall [] st (.append false size bytes (.const (.tight E)) (.const x)) = some (.sl (E ++ X) st.length (E ++ X).length, st ++ [.spare size (E ++ X).length]) := by
  have : X.isEmpty = false := by cases X <;> simp_all
  refine orA_of ?_
  simp [LX.ev, lappend, hx, hX, hE, this, roomy_of hb, maxLen, hm, h0]
theorem opIs_appSE {size bytes tg : Nat} {E X : List (List PV)} {st : List LObj} {x : LV} (hs : st[tg]? = some (.spare size E.length)) (hx : appended false st x = some X) (hX : sized size X = true)
    (hb : (E.length + X.length) * bytes ≤ 140737488355328) (hm : E.length + X.length ≤ 9223372036854775807) (h0 : 0 < size) :
    opStep noCall [] st (.append false size bytes (.const (.sl E tg E.length)) (.const x)) = some (.sl (E ++ X) tg (E ++ X).length, st.set tg (.spare size (E ++ X).length)) := by
  by_cases hM : X = []
  · subst hM
    refine orA_of ?_
    simp [LX.ev, lappend, hx, hX, hs]
    obtain ⟨h1, h2⟩ := List.getElem?_eq_some_iff.1 hs
    conv => rhs; rw [← h2]
    simp
  · have : X.isEmpty = false := by cases X <;> simp_all
    refine orA_of ?_
    simp [LX.ev, lappend, hx, hX, hs, this, roomy_of hb, maxLen, hm, h0, hM]
theorem opIs_sliceFromE {size tg n : Nat} {E : List (List PV)} {lo : Int} {st : List LObj} (hE : sized size E = true) (h0 : 0 ≤ lo) (h : lo < (E.length : Int)) :
    opStep noCall [] st (.slice size (.const (.sl E tg n)) (some (.const (.p (.int .i64 lo)))) none none) = some (.sl (E.drop lo.toNat) tg n, st) := by
  have hall : (E.all fun e => e.length == size) = true := hE
  have h1 : lo ≤ (E.length : Int) := by omega
  simp [opStep, LX.ev, rslice, LV.asSl, hall, lslice, bnd, h0, h1, h]
theorem opIs_sadd {A B : List UInt8} {st : List LObj} (h : A.length + B.length ≤ 9223372036854775807) :
    opStep noCall [] st (.bin .add (.const (.p (.str A))) (.const (.p (.str B)))) = some (.p (.str (A ++ B)), st) := by
  simp [opStep, LX.ev, lbin, sbin, h]
theorem opIs_mk0 {size bytes : Nat} {z : List LV} {c : Int} {st : List LObj} (h : 0 < c ∧ c * (bytes : Int) ≤ 281474976710656 ∧ c ≤ 9223372036854775807) (hz : z.length = size) (h0 : 0 < size) :
    opStep noCall [] st (.mkslice size bytes z (.const (.p (.int .i64 0))) (.const (.p (.int .i64 c)))) = some (.sl [] st.length 0, st ++ [.spare size 0]) := by
  have h1 : 0 ≤ c := by omega
  simp [opStep, LX.ev, LV.asInt, h.1, h.2.1, h1, hz, h0, maxLen]
  omega
theorem opIs_grow {size bytes : Nat} {n : Int} {st : List LObj} (h : 0 < n ∧ roomy n.toNat bytes = true ∧ n ≤ 9223372036854775807) :
    opStep noCall [] st (.grow size bytes (.const (.tight [])) (.const (.p (.int .i64 n)))) = some (.gr st.length n.toNat, st ++ [.spare size 0]) := by
  have hn : ¬ n = 0 := by omega
  simp [opStep, LX.ev, hn, h]
theorem opIs_sliceGr {size tg n : Nat} {st : List LObj} :
    opStep noCall [] st (.slice size (.const (.gr tg n)) none (some (.const (.p (.int .i64 0)))) none) = some (.sl [] tg 0, st) := by
  simp [opStep, LX.ev, rslice, bnd]
theorem opIs_appT0 {str : Bool} {M : List UInt8} {es : List (List PV)} {st : List LObj} {x : LV} (hx : appended str st x = some es) (he : es = bs M) (hM : decide (M = []) = true) :
    opStep noCall [] st (.append str 1 1 (.const (.tight [])) (.const x)) = some (.tight [], st) := by
  subst he
  have : M = [] := of_decide_eq_true hM
  subst this
  refine orA_of ?_
  simp [LX.ev, lappend, hx, bs, sized]
theorem opIs_nileq {neg : Bool} {L : List UInt8} {st : List LObj} (h : L ≠ []) :
    opStep noCall [] st (.nileq neg .slice (.const (.p (.sl (bs L))))) = some (.p (.bool neg), st) := by
  cases L with
  | nil => exact (h rfl).elim
  | cons c r => simp [opStep, LX.ev, LV.nilq, bs]
theorem opIs_sidxD {M : List UInt8} {i : Nat} {st : List LObj} (h : i < M.length) :
    opStep noCall [] st (.index (.const (.p (.str M))) (.const (.p (.int .i64 ((i : Nat) : Int))))) = some (.p (.int .u8 ((M.getD i 0).toNat : Int)), st) := by
  simp [opStep, LX.ev, LV.asInt, h]
theorem opIs_sidxI {M : List UInt8} {i : Int} {st : List LObj} (h0 : 0 ≤ i) (h : i < (M.length : Int)) :
    opStep noCall [] st (.index (.const (.p (.str M))) (.const (.p (.int .i64 i)))) = some (.p (.int .u8 ((M.getD i.toNat 0).toNat : Int)), st) := by
  obtain ⟨n, rfl⟩ := Int.eq_ofNat_of_zero_le h0
  exact opIs_sidxD (by omega)
end Go.LS
namespace Go.LS
theorem okBytes : ∀ {es : List (List PV)}, (∀ e ∈ es, okPVs [.int .u8] e) → ∃ b : List UInt8, es = bs b
  | [], _ => ⟨[], rfl⟩
  | e :: r, h => by
    obtain ⟨b, rfl⟩ := okBytes (es := r) (fun x hx => h x (List.mem_cons_of_mem _ hx))
    obtain ⟨_, _, rfl, ⟨n, rfl, h0, h1⟩, rfl⟩ := h e (List.mem_cons_self ..)
    replace h0 : 0 ≤ n := h0
    replace h1 : n ≤ 255 := h1
    refine ⟨UInt8.ofNat n.toNat :: b, ?_⟩
    have := byte_bs h0 h1
    simp only [bs, List.map_cons, List.map_nil, List.cons.injEq] at this
    simp [bs]
    omega
theorem okArg {agg : Bool} {ts : List Cty} {r : List (Bool × List Cty)} {l : List LV} (h : OkArgs ((agg, ts) :: r) l) : ∃ ps m, l = argLV agg ps :: m ∧ okPVs ts ps ∧ OkArgs r m := h
theorem okEnd {l : List LV} (h : OkArgs [] l) : l = [] := h
theorem okI {k : IntKind} {ts : List Cty} {ps : List PV} (h : okPVs (.int k :: ts) ps) : ∃ n r, ps = .int k n :: r ∧ (k.min ≤ n ∧ n ≤ k.max) ∧ okPVs ts r := by
  obtain ⟨_, r, rfl, ⟨n, rfl, h1⟩, h2⟩ := h
  exact ⟨n, r, rfl, h1, h2⟩
theorem okS {ts : List Cty} {ps : List PV} (h : okPVs (.str :: ts) ps) : ∃ n r, ps = .str n :: r ∧ n.length ≤ reachBytes ∧ okPVs ts r := by
  obtain ⟨_, r, rfl, ⟨n, rfl, h1⟩, h2⟩ := h
  exact ⟨n, r, rfl, h1, h2⟩
theorem okB {ts : List Cty} {ps : List PV} (h : okPVs (.bool :: ts) ps) : ∃ n r, ps = .bool n :: r ∧ True ∧ okPVs ts r := by
  obtain ⟨_, r, rfl, ⟨n, rfl⟩, h2⟩ := h
  exact ⟨n, r, rfl, trivial, h2⟩
theorem okSl {u : List Cty} {b : Nat} {ts : List Cty} {ps : List PV} (h : okPVs (.sl u b :: ts) ps) : ∃ n r, ps = .sl n :: r ∧ (n.length * b ≤ reachBytes ∧ n.length ≤ maxLen ∧ ∀ e ∈ n, okPVs u e) ∧ okPVs ts r := by
  obtain ⟨_, r, rfl, ⟨n, rfl, h1⟩, h2⟩ := h
  exact ⟨n, r, rfl, h1, h2⟩
theorem okPr {Q : List PV → Prop} {b : Nat} {ts : List Cty} {ps : List PV} (h : okPVs (.pr Q b :: ts) ps) : ∃ n r, ps = .sl n :: r ∧ (n.length * b ≤ reachBytes ∧ n.length ≤ maxLen ∧ ∀ e ∈ n, Q e) ∧ okPVs ts r := by
  obtain ⟨_, r, rfl, ⟨n, rfl, h1⟩, h2⟩ := h
  exact ⟨n, r, rfl, h1, h2⟩
theorem okNil {ps : List PV} (h : okPVs [] ps) : ps = [] := h
end Go.LS
set_option linter.unusedVariables false
namespace Go.LS
def foldE {α σ ρ : Type} (f : σ → α → ρ ⊕ σ) (e : σ → ρ) : σ → List α → ρ
  | s, [] => e s
  | s, x :: r => match f s x with
    | .inl y => y
    | .inr s' => foldE f e s' r
theorem drop_get {α : Type} {xs : List α} {i : Nat} {x : α} (h : xs[i]? = some x) : xs.drop i = x :: xs.drop (i + 1) := by
  obtain ⟨hi, rfl⟩ := List.getElem?_eq_some_iff.1 h
  exact List.drop_eq_getElem_cons hi
theorem loop_fold {α σ : Type} {lp : LProg} {k : Nat} {L : List Bool × LCode} (T : Nat → σ → List LV) (S : Nat → σ → List LObj) (xs : List α) (f : σ → α → (LOut × List LV × List LObj) ⊕ σ) (e : σ → LOut × List LV × List LObj) (Inv : Nat → σ → Prop)
    (hs : ∀ i s x, xs[i]? = some x → Inv i s → (∀ r, f s x = .inl r → LoopN lp k L (T i s) (S i s) r) ∧ ∀ s', f s x = .inr s' → Inv (i + 1) s' ∧ ∀ r, LoopN lp k L (T (i + 1) s') (S (i + 1) s') r → LoopN lp k L (T i s) (S i s) r)
    (he : ∀ s, Inv xs.length s → LoopN lp k L (T xs.length s) (S xs.length s) (e s)) (s0 : σ) (h0 : Inv 0 s0) : LoopN lp k L (T 0 s0) (S 0 s0) (foldE f e s0 xs) := by
  have key : ∀ n i s, n + i = xs.length → Inv i s → LoopN lp k L (T i s) (S i s) (foldE f e s (xs.drop i)) := by
    intro n
    induction n with
    | zero =>
      intro i s h hi
      obtain rfl : i = xs.length := by omega
      rw [List.drop_length]
      exact he s hi
    | succ n ih =>
      intro i s h hi
      have hx : xs[i]? = some (xs[i]'(by omega)) := List.getElem?_eq_getElem (by omega)
      rw [drop_get hx]
      obtain ⟨h1, h2⟩ := hs i s _ hx hi
      simp only [foldE]
      cases hf : f s (xs[i]'(by omega)) with
      | inl r => exact h1 r hf
      | inr s' =>
        obtain ⟨h3, h4⟩ := h2 s' hf
        exact h4 _ (ih (i + 1) s' (by omega) h3)
  have := key xs.length 0 s0 (by omega) h0
  rwa [List.drop_zero] at this
theorem loop_all {α : Type} {lp : LProg} {k : Nat} {L : List Bool × LCode} (T : Nat → List LV) (S : List LObj) (xs : List α) (p : α → Bool) {rF rT : LOut × List LV × List LObj}
    (hF : ∀ i x, xs[i]? = some x → p x = false → LoopN lp k L (T i) S rF) (hS : ∀ i x r, xs[i]? = some x → p x = true → LoopN lp k L (T (i + 1)) S r → LoopN lp k L (T i) S r)
    (hE : LoopN lp k L (T xs.length) S rT) : LoopN lp k L (T 0) S (if xs.all p = true then rT else rF) := by
  have := loop_fold (σ := Unit) (fun i _ => T i) (fun _ _ => S) xs (fun _ x => if p x = true then .inr () else .inl rF) (fun _ => rT) (fun _ _ => True)
    (fun i s x hx _ => by
      cases hp : p x with
      | true => simp only [if_true]; exact ⟨fun r h => (by cases h), fun s' _ => ⟨trivial, fun r hr => hS i x r hx hp hr⟩⟩
      | false => simp only [Bool.false_eq_true, if_false]; exact ⟨fun r h => (by cases h; exact hF i x hx hp), fun s' h => (by cases h)⟩)
    (fun _ _ => hE) () trivial
  have e : ∀ l : List α, foldE (fun (_ : Unit) x => if p x = true then (.inr () : (LOut × List LV × List LObj) ⊕ Unit) else .inl rF) (fun _ => rT) () l = if l.all p = true then rT else rF := by
    intro l
    induction l with
    | nil => rfl
    | cons x r ih =>
      have e1 : (x :: r).all p = (p x && r.all p) := rfl
      simp only [foldE, e1]
      by_cases hp : p x = true
      · simp only [hp, if_true, Bool.true_and]; exact ih
      · simp only [hp, Bool.false_and, Bool.false_eq_true, if_false]
  rw [e] at this
  exact this
theorem loop_each {α σ : Type} {lp : LProg} {k : Nat} {L : List Bool × LCode} (T : Nat → σ → List LV) (S : Nat → σ → List LObj) (xs : List α) (f : σ → α → σ) (e : σ → LOut × List LV × List LObj) (Inv : Nat → σ → Prop)
    (hS : ∀ i s x r, xs[i]? = some x → Inv i s → Inv (i + 1) (f s x) ∧ (LoopN lp k L (T (i + 1) (f s x)) (S (i + 1) (f s x)) r → LoopN lp k L (T i s) (S i s) r))
    (hE : ∀ s, Inv xs.length s → LoopN lp k L (T xs.length s) (S xs.length s) (e s)) (s0 : σ) (h0 : Inv 0 s0) : LoopN lp k L (T 0 s0) (S 0 s0) (e (xs.foldl f s0)) := by
  have := loop_fold T S xs (fun s x => .inr (f s x)) e Inv (fun i s x hx hi => ⟨fun r h => (by cases h), fun s' h => (by cases h; exact ⟨(hS i s x (e s) hx hi).1, fun r hr => (hS i s x r hx hi).2 hr⟩)⟩) hE s0 h0
  have e2 : ∀ (l : List α) s, foldE (fun s x => (.inr (f s x) : (LOut × List LV × List LObj) ⊕ σ)) e s l = e (l.foldl f s) := by
    intro l
    induction l with
    | nil => intro s; rfl
    | cons x r ih => intro s; simp only [foldE, List.foldl_cons]; exact ih _
  rw [e2] at this
  exact this
theorem LoopAt.onG {lp : LProg} {N k : Nat} {mask : List Bool} {c : LCode} {t t1 t2 t3 : List LV} {st st1 st3 : List LObj} {os os' : Os} {ps : List Prop} {r : LOut × List LV × List LObj}
    (h : execO lp k N c t st os = some (.normal, t1, st1, ps, os')) (hk : kill mask t1 = t2) (hg : gc k t2 st1 = some (t3, st3)) (hp : Conj ps) (hr : LoopAt lp k mask c t3 st3 r) : LoopAt lp k mask c t st r := by
  refine LoopAt.on (N := N) (os := os) (ps := ps) (t' := t3) (st' := st3) ?_ hp hr
  unfold roundO
  rw [h]
  simp only [hk, hg]
theorem nx {i : Nat} (h : i ≤ 1000000000000000) : IntKind.wrap .i64 ((i : Int) + 1) = ((i + 1 : Nat) : Int) := by
  rw [wrap_i64 (by omega) (by omega)]; rfl
theorem wrap_add (a b : Int) : IntKind.wrap .i64 (IntKind.wrap .i64 a + b) = IntKind.wrap .i64 (a + b) := by
  simp only [IntKind.wrap, IntKind.bits, IntKind.signed]
  simp
  omega
theorem wrap_add' (a b : Int) : IntKind.wrap .i64 (a + IntKind.wrap .i64 b) = IntKind.wrap .i64 (a + b) := by
  rw [Int.add_comm, wrap_add, Int.add_comm]
theorem wrap_wrap (a : Int) : IntKind.wrap .i64 (IntKind.wrap .i64 a) = IntKind.wrap .i64 a := by
  have := wrap_add a 0
  simpa using this
end Go.LS
set_option linter.unusedVariables false
set_option linter.unusedSimpArgs false
namespace Go.LS
inductive Val where
  | mk (kind int : Int) (text : List UInt8) (items : List Val) (names : List (List UInt8))
  deriving Inhabited
def rowsN (ns : List (List UInt8)) : List (List PV) := ns.map fun x => [.str x]
mutual
def rowV : Val → List PV
  | .mk k n s is ns => [.int .i64 k, .int .i64 n, .str s, .sl (rowsV is), .sl (rowsN ns)]
def rowsV : List Val → List (List PV)
  | [] => []
  | v :: r => rowV v :: rowsV r
end
abbrev encV : Val → LV
  | .mk k n s is ns => .agg [.p (.int .i64 k), .p (.int .i64 n), .p (.str s), .p (.sl (rowsV is)), .p (.sl (rowsN ns))]
theorem rowsV_map : ∀ (l : List Val), rowsV l = l.map rowV
  | [] => rfl
  | v :: r => by rw [rowsV, rowsV_map r]; rfl
theorem rowsV_len (l : List Val) : (rowsV l).length = l.length := by rw [rowsV_map, List.length_map]
theorem rowsN_len (l : List (List UInt8)) : (rowsN l).length = l.length := by simp [rowsN]
theorem rowV_len : ∀ (v : Val), (rowV v).length = 5
  | .mk .. => rfl
theorem rowsV_get {l : List Val} {i : Nat} {v : Val} (h : l[i]? = some v) : (rowsV l)[i]? = some (rowV v) := by rw [rowsV_map, List.getElem?_map, h]; rfl
theorem rowsN_get {l : List (List UInt8)} {i : Nat} (h : i < l.length) : (rowsN l)[i]? = some [.str (l.getD i [])] := by
  simp [rowsN, h]
theorem Val.ind {P : Val → Prop} (h : ∀ k n s is ns, (∀ v ∈ is, P v) → P (.mk k n s is ns)) : ∀ v, P v
  | .mk k n s is ns => h k n s is ns fun v hv => Val.ind h v
def nameB (s : List UInt8) : Bool := !(s.contains 46) && decide (1 ≤ s.length) && decide (s.length ≤ 32) && !(s.headD 0 == 36)
def twiceB : List (List UInt8) → Bool
  | [] => false
  | x :: r => r.contains x || twiceB r
def shapeB (k n : Int) (s : List UInt8) (l : Nat) (ns : List (List UInt8)) : Bool :=
  if k == 1 then n == 0 && s == [] && decide (l = 0) && decide (ns.length = 0)
  else if k == 2 then (decide (0 ≤ n) && decide (n ≤ 1)) && s == [] && decide (l = 0) && decide (ns.length = 0)
  else if k == 3 then s == [] && decide (l = 0) && decide (ns.length = 0)
  else if k == 4 || k == 5 then n == 0 && decide (l = 0) && decide (ns.length = 0)
  else if k == 6 then n == 0 && s == [] && decide (ns.length = 0)
  else if k == 7 then n == 0 && s == [] && decide (ns.length = l) && !twiceB ns
  else false
def okNamesB (ns : List (List UInt8)) : Bool := ns.all nameB && !twiceB ns
mutual
def mayV : Val → Bool
  | .mk k n s is ns => mayL is && ns.all nameB && shapeB k n s is.length ns
def mayL : List Val → Bool
  | [] => true
  | v :: r => mayV v && mayL r
end
mutual
def depthV : Val → Int
  | .mk _ _ _ is _ => depthL is + 1
def depthL : List Val → Int
  | [] => 0
  | v :: r => max (depthV v) (depthL r)
end
theorem mayL_all : ∀ (l : List Val), mayL l = l.all mayV
  | [] => rfl
  | v :: r => by rw [mayL, mayL_all r]; rfl
def zzN (x : Int) : Nat := if 0 ≤ x then (2 * x).toNat else (-(2 * x) - 1).toNat
def clenN (n : Nat) : Int := ((vcode n).length : Int)
def tlenN (s : List UInt8) : Int := ((vcode s.length).length : Int) + s.length
mutual
def sizeV : Val → Int
  | .mk k n s is ns => if k == 2 then 2 else if k == 3 then 1 + ((vcode (zzN n)).length : Int) else if k == 4 || k == 5 then 1 + tlenN s
    else if k == 6 then 1 + clenN is.length + sizeL is else if k == 7 then 1 + clenN is.length + sizeL is + (ns.map tlenN).sum else 1
def sizeL : List Val → Int
  | [] => 0
  | v :: r => sizeV v + sizeL r
end
def sizeW (v : Val) : Int := IntKind.wrap .i64 (sizeV v)
mutual
def nodesV : Int → Val → Int
  | d, .mk _ _ _ is ns => if d > 40 then 1048576 else nodesL (IntKind.wrap .i64 (d + 1)) (IntKind.wrap .i64 (1 + (ns.length : Int))) is
def nodesL : Int → Int → List Val → Int
  | _, m, [] => m
  | d, m, v :: r => if m < 65536 then nodesL d (IntKind.wrap .i64 (m + nodesV d v)) r else m
end
def largeV (v : Val) : Bool := decide (nodesV 0 v > 3000)
mutual
def sameV : Val → Val → Bool
  | .mk k n s is ns, .mk k' n' s' is' ns' => (k == k') && (n == n') && (s == s') && sameL is is' && (ns == ns')
def sameL : List Val → List Val → Bool
  | [], [] => true
  | v :: r, v' :: r' => sameV v v' && sameL r r'
  | _, _ => false
end
def ordI (a b : Int) : Int := if a < b then -1 else if a > b then 1 else 0
def ordS (a b : List UInt8) : Int := if Op.bytesLess a b = true then -1 else if (!(Op.bytesLess a b || a == b)) = true then 1 else 0
mutual
def cmpV : Val → Val → Int
  | .mk k n s is ns, .mk k' n' s' is' ns' => if ordI k k' ≠ 0 then ordI k k' else if ordI n n' ≠ 0 then ordI n n' else if ordS s s' ≠ 0 then ordS s s' else
    match cmpL (k == 7) is is' ns ns' with
    | some c => c
    | none => ordI is.length is'.length
def cmpL : Bool → List Val → List Val → List (List UInt8) → List (List UInt8) → Option Int
  | d, v :: r, w :: q, ns, ms => if d = true ∧ ordS (ns.headD []) (ms.headD []) ≠ 0 then some (ordS (ns.headD []) (ms.headD [])) else
    if cmpV v w ≠ 0 then some (cmpV v w) else cmpL d r q ns.tail ms.tail
  | _, _, _, _, _ => none
end
def cmp0V (v w : Val) : Int := if mayV v = true then (if mayV w = true then cmpV v w else 1) else if mayV w = true then -1 else 0
def checkV (v : Val) : Int := if mayV v = true then (if depthV v > 8 then 21 else if sizeW v > 4096 then 22 else 0) else 20
def dep0V (v : Val) : Int := if mayV v = true then depthV v else 0
def siz0V (v : Val) : Int := if mayV v = true then sizeW v else 0
mutual
def okV : Val → Prop
  | .mk k n s is ns => (-9223372036854775808 ≤ k ∧ k ≤ 9223372036854775807) ∧ (-9223372036854775808 ≤ n ∧ n ≤ 9223372036854775807) ∧ s.length ≤ 140737488351232 ∧ is.length * 80 ≤ 140737488355328 ∧ ns.length * 16 ≤ 140737488355328 ∧ (∀ x ∈ ns, x.length ≤ 140737488351232) ∧ okL is
def okL : List Val → Prop
  | [] => True
  | v :: r => okV v ∧ okL r
end
theorem okL_all : ∀ {l : List Val}, okL l ↔ ∀ v ∈ l, okV v
  | [] => by simp [okL]
  | v :: r => by rw [okL, okL_all (l := r)]; simp
theorem okNames : ∀ {es : List (List PV)}, (∀ e ∈ es, okPVs [.str] e) → ∃ ns : List (List UInt8), es = rowsN ns ∧ ∀ x ∈ ns, x.length ≤ 140737488351232
  | [], _ => ⟨[], rfl, by simp⟩
  | e :: r, h => by
    obtain ⟨ns, rfl, hn⟩ := okNames (es := r) (fun x hx => h x (List.mem_cons_of_mem _ hx))
    obtain ⟨_, _, rfl, ⟨s, rfl, hs⟩, rfl⟩ := h e (List.mem_cons_self ..)
    refine ⟨s :: ns, rfl, fun x hx => ?_⟩
    rcases List.mem_cons.1 hx with rfl | hx
    · simp [reachBytes] at hs; omega
    · exact hn x hx
theorem okVal1 {Q : List PV → Prop} (hQ : ∀ {es : List (List PV)}, (∀ e ∈ es, Q e) → ∃ l : List Val, es = rowsV l ∧ okL l) {e : List PV}
    (h : okPVs [.int .i64, .int .i64, .str, .pr Q 80, .sl [.str] 16] e) : ∃ v : Val, e = rowV v ∧ okV v := by
  obtain ⟨_, _, rfl, ⟨a, rfl, a0, a1⟩, _, _, rfl, ⟨b, rfl, b0, b1⟩, _, _, rfl, ⟨s, rfl, hs⟩, _, _, rfl, ⟨es, rfl, e1, -, e3⟩, _, _, rfl, ⟨ns, rfl, n1, -, n3⟩, rfl⟩ := h
  obtain ⟨l, rfl, hl⟩ := hQ e3
  obtain ⟨m, rfl, hm⟩ := okNames n3
  refine ⟨.mk a b s l m, rfl, ⟨⟨a0, a1⟩, ⟨b0, b1⟩, ?_, ?_, ?_, hm, hl⟩⟩
  · simp [reachBytes] at hs; omega
  · rw [rowsV_len] at e1; simp [reachBytes] at e1; omega
  · rw [rowsN_len] at n1; simp [reachBytes] at n1; omega
theorem okVals {P : Program} {cut : List TypeId} {N : Nat} {T : TypeId} (hT : ∀ Q, tyT P cut Q N T = some [.int .i64, .int .i64, .str, .pr (Q T) 80, .sl [.str] 16]) :
    ∀ (k : Nat) {es : List (List PV)}, (∀ e ∈ es, RecOk P cut N k T e) → ∃ l : List Val, es = rowsV l ∧ okL l := by
  intro k
  induction k with
  | zero =>
    intro es h
    cases es with
    | nil => exact ⟨[], rfl, trivial⟩
    | cons e r => exact (h e (List.mem_cons_self ..)).elim
  | succ k ih =>
    intro es
    induction es with
    | nil => exact fun _ => ⟨[], rfl, trivial⟩
    | cons e r ihr =>
      intro h
      obtain ⟨l, rfl, hl⟩ := ihr fun x hx => h x (List.mem_cons_of_mem _ hx)
      obtain ⟨ts, h1, h2⟩ := h e (List.mem_cons_self ..)
      rw [hT] at h1
      cases h1
      obtain ⟨v, rfl, hv⟩ := okVal1 (fun h => ih h) h2
      exact ⟨v :: l, rfl, hv, hl⟩
theorem okValA {Q : List PV → Prop} (hQ : ∀ {es : List (List PV)}, (∀ e ∈ es, Q e) → ∃ l : List Val, es = rowsV l ∧ okL l) {e : List PV}
    (h : okPVs [.int .i64, .int .i64, .str, .pr Q 80, .sl [.str] 16] e) : ∃ v : Val, (.agg (e.map .p) : LV) = encV v ∧ okV v := by
  obtain ⟨v, rfl, hv⟩ := okVal1 hQ h
  exact ⟨v, by cases v; rfl, hv⟩
theorem rowsV_append (a b : List Val) : rowsV (a ++ b) = rowsV a ++ rowsV b := by simp [rowsV_map]
theorem rowsV_sized (l : List Val) : sized 5 (rowsV l) = true := by
  simp only [sized, List.all_eq_true, rowsV_map, List.mem_map]
  rintro _ ⟨v, _, rfl⟩
  simp [rowV_len]
theorem rowsN_sized (l : List (List UInt8)) : sized 1 (rowsN l) = true := by
  simp only [sized, List.all_eq_true, rowsN, List.mem_map]
  rintro _ ⟨v, _, rfl⟩
  rfl
theorem opIs_appVS {tg : Nat} {es : List Val} {k n : Int} {s : List UInt8} {is : List Val} {ns : List (List UInt8)} {st : List LObj} (hs : st[tg]? = some (.spare 5 (List.length (rowsV es)))) (hb : (es.length + 1) * 80 ≤ 140737488355328) :
    opStep noCall [] st (.append false 5 80 (.const (.sl (rowsV es) tg (List.length (rowsV es)))) (.const (.tight [[.int .i64 k, .int .i64 n, .str s, .sl (rowsV is), .sl (rowsN ns)]]))) =
      some (.sl (rowsV (es ++ [.mk k n s is ns])) tg (List.length (rowsV (es ++ [.mk k n s is ns]))), st.set tg (.spare 5 (List.length (rowsV (es ++ [.mk k n s is ns]))))) := by
  have := opIs_appSE (size := 5) (bytes := 80) (tg := tg) (E := rowsV es) (X := [[.int .i64 k, .int .i64 n, .str s, .sl (rowsV is), .sl (rowsN ns)]]) (st := st) (x := .tight [[.int .i64 k, .int .i64 n, .str s, .sl (rowsV is), .sl (rowsN ns)]]) hs rfl rfl
    (by rw [rowsV_len]; exact hb) (by rw [rowsV_len]; simp; omega) (by decide)
  rw [this, rowsV_append]
  rfl
theorem opIs_appVT {k n : Int} {s : List UInt8} {is : List Val} {ns : List (List UInt8)} {st : List LObj} :
    opStep noCall [] st (.append false 5 80 (.const (.tight [])) (.const (.tight [[.int .i64 k, .int .i64 n, .str s, .sl (rowsV is), .sl (rowsN ns)]]))) =
      some (.sl (rowsV [.mk k n s is ns]) st.length (List.length (rowsV [.mk k n s is ns])), st ++ [.spare 5 (List.length (rowsV [.mk k n s is ns]))]) := by
  exact opIs_appTE (size := 5) (bytes := 80) (E := []) (X := [[.int .i64 k, .int .i64 n, .str s, .sl (rowsV is), .sl (rowsN ns)]]) (st := st) (x := .tight [[.int .i64 k, .int .i64 n, .str s, .sl (rowsV is), .sl (rowsN ns)]]) rfl rfl rfl (by simp) (by simp) (by simp) (by decide)
def seenM (ms : List (List UInt8)) : List (PV × LV) := ms.map fun x => (.str x, .p (.bool true))
theorem seenM_find (x : List UInt8) : ∀ (ms : List (List UInt8)), mfind (.str x) (seenM ms) = some (if ms.contains x then some (.p (.bool true)) else none)
  | [] => rfl
  | y :: r => by
    have ih := seenM_find x r
    rw [seenM] at ih
    simp only [seenM, List.map_cons, mfind, pvEq]
    by_cases h : x = y
    · subst h; simp
    · have h2 : (x == y) = false := by simpa using h
      rw [h2]
      simp only [ih, List.contains_cons, h2, Bool.false_or]
theorem seenM_set (x : List UInt8) : ∀ (ms : List (List UInt8)), ms.contains x = false → mset (.str x) (.p (.bool true)) (seenM ms) = some (seenM (ms ++ [x]))
  | [], _ => rfl
  | y :: r, h => by
    rw [List.contains_cons, Bool.or_eq_false_iff] at h
    have ih := seenM_set x r h.2
    rw [seenM] at ih
    simp only [seenM, List.map_cons, mset, pvEq, h.1, ih, List.cons_append]
theorem seenM_refs (ms : List (List UInt8)) : (LObj.map (seenM ms)).refs = [] := by
  simp only [LObj.refs, seenM, List.flatMap_map]
  induction ms with
  | nil => rfl
  | cons x r ih => simp [LV.refs]
theorem seenM_ren (r : Nat → Nat) (ms : List (List UInt8)) : LObj.ren r (.map (seenM ms)) = .map (seenM ms) := by
  simp [LObj.ren, seenM, LV.ren]
theorem gc_seen {ms : List (List UInt8)} {vs : List LV} (h1 : vs.flatMap LV.refs = [0]) (h2 : vs.map (LV.ren fun q => [0].idxOf q) = vs) : gc 0 vs [.map (seenM ms)] = some (vs, [.map (seenM ms)]) := by
  have hr : gcIds 0 [.map (seenM ms)] (vs.flatMap LV.refs) = [0] := by
    rw [h1]
    unfold gcIds
    rw [show (100000 : Nat) = 99998 + 1 + 1 from rfl]
    simp [reach, seenM_refs]
  unfold gc
  simp only [hr]
  rw [h1, h2]
  simp [closed, seenM_refs, sub, seenM_ren]
theorem opIs_seen {st : List LObj} {ms : List (List UInt8)} {x : List UInt8} {o : Nat} (h : st[o]? = some (.map (seenM ms))) :
    opStep noCall [] st (.lookup .str (.p (.bool false)) false (.const (.mp o)) (.const (.p (.str x)))) = some (.p (.bool (ms.contains x)), st) := by
  simp only [opStep, LX.ev, LV.toPV, KK.fits, mlook, h, seenM_find]
  cases ms.contains x <;> rfl
theorem opIs_see {st : List LObj} {ms : List (List UInt8)} {x : List UInt8} {o : Nat} (h : st[o]? = some (.map (seenM ms))) (hx : ms.contains x = false) :
    opStep noCall [] st (.mapUpdate .str (.const (.mp o)) (.const (.p (.str x))) (.const (.p (.bool true)))) = some (.tup [], st.set o (.map (seenM (ms ++ [x])))) := by
  simp only [opStep, LX.ev, LV.toPV, KK.fits, h, seenM_set x ms hx]
  rfl
end Go.LS
set_option linter.unusedVariables false
namespace Go.LS
def u8 (x : Int) : UInt8 := UInt8.ofNat (Int.toNat (IntKind.wrap .u8 x))
mutual
def encC : Val → List UInt8
  | .mk k n s is ns => u8 k :: (if k == 1 then [] else if k == 2 then [u8 n] else if k == 3 then vcode (zzN n) else if k == 4 || k == 5 then vcode s.length ++ s
    else vcode is.length ++ encL (k == 7) is ns)
def encL : Bool → List Val → List (List UInt8) → List UInt8
  | _, [], _ => []
  | d, v :: r, ns => (if d then vcode (ns.headD []).length ++ ns.headD [] else []) ++ encC v ++ encL d r ns.tail
end
theorem encL_fold0 (ns : List (List UInt8)) : ∀ (is : List Val) (L : List UInt8), is.foldl (fun b x => b ++ encC x) L = L ++ encL false is ns := by
  intro is
  induction is generalizing ns with
  | nil => intro L; simp [encL]
  | cons v r ih => intro L; rw [List.foldl_cons, ih ns.tail]; simp [encL]
theorem encL_fold1 : ∀ (is : List Val) (ns : List (List UInt8)) (L : List UInt8), ns.length = is.length →
    (is.zip ns).foldl (fun b x => b ++ (vcode x.2.length ++ x.2) ++ encC x.1) L = L ++ encL true is ns := by
  intro is
  induction is with
  | nil => intro ns L h; simp [encL]
  | cons v r ih =>
    intro ns L h
    cases ns with
    | nil => simp at h
    | cons x q =>
      rw [List.zip_cons_cons, List.foldl_cons, ih q _ (by simpa using h)]
      simp [encL]
theorem encL_len0 : ∀ (is : List Val) (ns : List (List UInt8)), (∀ v ∈ is, ((encC v).length : Int) = sizeV v) → ((encL false is ns).length : Int) = sizeL is := by
  intro is
  induction is with
  | nil => intro ns h; simp [encL, sizeL]
  | cons v r ih =>
    intro ns h
    have h1 := h v (by simp)
    have h2 := ih ns.tail (fun x hx => h x (by simp [hx]))
    simp only [encL, sizeL, List.length_append, Bool.false_eq_true, if_false, List.length_nil]
    omega
theorem encL_len1 : ∀ (is : List Val) (ns : List (List UInt8)), ns.length = is.length → (∀ v ∈ is, ((encC v).length : Int) = sizeV v) → ((encL true is ns).length : Int) = sizeL is + (ns.map tlenN).sum := by
  intro is
  induction is with
  | nil => intro ns hn h; obtain rfl : ns = [] := List.eq_nil_of_length_eq_zero (by simpa using hn); simp [encL, sizeL]
  | cons v r ih =>
    intro ns hn h
    cases ns with
    | nil => simp at hn
    | cons x q =>
      have h1 := h v (by simp)
      have h2 := ih q (by simpa using hn) (fun y hy => h y (by simp [hy]))
      simp only [encL, sizeL, List.length_append, if_true, List.headD_cons, List.tail_cons, List.map_cons, List.sum_cons, tlenN]
      omega
theorem rowsN_append (a b : List (List UInt8)) : rowsN (a ++ b) = rowsN a ++ rowsN b := by simp [rowsN]
theorem opIs_appNS {tg : Nat} {es : List (List UInt8)} {s : List UInt8} {st : List LObj} (hs : st[tg]? = some (.spare 1 (List.length (rowsN es)))) (hb : (es.length + 1) * 16 ≤ 140737488355328) :
    opStep noCall [] st (.append false 1 16 (.const (.sl (rowsN es) tg (List.length (rowsN es)))) (.const (.tight [[.str s]]))) =
      some (.sl (rowsN (es ++ [s])) tg (List.length (rowsN (es ++ [s]))), st.set tg (.spare 1 (List.length (rowsN (es ++ [s]))))) := by
  have := opIs_appSE (size := 1) (bytes := 16) (tg := tg) (E := rowsN es) (X := [[.str s]]) (st := st) (x := .tight [[.str s]]) hs rfl rfl
    (by rw [rowsN_len]; exact hb) (by rw [rowsN_len]; simp; omega) (by decide)
  rw [this, rowsN_append]
  rfl
theorem opIs_appNT {s : List UInt8} {st : List LObj} :
    opStep noCall [] st (.append false 1 16 (.const (.tight [])) (.const (.tight [[.str s]]))) =
      some (.sl (rowsN [s]) st.length (List.length (rowsN [s])), st ++ [.spare 1 (List.length (rowsN [s]))]) := by
  exact opIs_appTE (size := 1) (bytes := 16) (E := []) (X := [[.str s]]) (st := st) (x := .tight [[.str s]]) rfl rfl rfl (by simp) (by simp) (by simp) (by decide)
end Go.LS
set_option linter.unusedVariables false
namespace Go.LS
theorem rowsN_take (n : Nat) (ms : List (List UInt8)) : (rowsN ms).take n = rowsN (ms.take n) := by simp [rowsN, List.map_take]
theorem rowsN_all (ms : List (List UInt8)) : ((rowsN ms).all fun e => e.length == 1) = true := rowsN_sized ms
theorem opIs_sliceNH {ms : List (List UInt8)} {n : Nat} {st : List LObj} (h : n ≤ ms.length) :
    opStep noCall [] st (.slice 1 (.const (.p (.sl (rowsN ms)))) none (some (.const (.p (.int .i64 (n : Int))))) none) = some (.p (.sl (rowsN (ms.take n))), st) := by
  have hl := rowsN_len ms
  have e1 : (rslice 1 st (.p (.sl (rowsN ms))) none (some (.p (.int .i64 (n : Int)))) none) = some (.p (.sl (rowsN (ms.take n)))) := by
    simp only [rslice, LV.asSl, rowsN_all, if_true, lslice, bnd, Option.isSome_none, Bool.false_eq_true, false_and, if_false, Option.isNone_some, hl]
    rw [if_pos (by omega)]
    simp only [Int.toNat_natCast, List.drop_zero, Option.isNone_none, true_and]
    by_cases hn : n = ms.length ∧ 0 < ms.length
    · rw [if_pos hn]
      rw [← rowsN_take, hn.1, ← hl, List.take_length]
    · rw [if_neg hn, rowsN_take]
  simp only [opStep, LX.ev, Option.map_none, Option.map_some, e1]
end Go.LS
set_option linter.unusedVariables false
namespace Go.LS
theorem loop_find {α : Type} {lp : LProg} {k : Nat} {L : List Bool × LCode} (T : Nat → List LV) (S : List LObj) (xs : List α) (p : α → Bool) {rT : LOut × List LV × List LObj} (rF : Nat → LOut × List LV × List LObj)
    (hF : ∀ i x, xs[i]? = some x → p x = false → LoopN lp k L (T i) S (rF i)) (hS : ∀ i x r, xs[i]? = some x → p x = true → LoopN lp k L (T (i + 1)) S r → LoopN lp k L (T i) S r)
    (hE : LoopN lp k L (T xs.length) S rT) : ∃ m, LoopN lp k L (T 0) S (if xs.all p = true then rT else rF m) := by
  have key : ∀ n i, n + i = xs.length → ∃ m, LoopN lp k L (T i) S (if (xs.drop i).all p = true then rT else rF m) := by
    intro n
    induction n with
    | zero =>
      intro i h
      obtain rfl : i = xs.length := by omega
      rw [List.drop_length]
      exact ⟨0, hE⟩
    | succ n ih =>
      intro i h
      have hx : xs[i]? = some (xs[i]'(by omega)) := List.getElem?_eq_getElem (by omega)
      rw [drop_get hx, List.all_cons]
      cases hp : p (xs[i]'(by omega)) with
      | true =>
        obtain ⟨m, hm⟩ := ih (i + 1) (by omega)
        exact ⟨m, hS i _ _ hx hp (by simpa using hm)⟩
      | false => exact ⟨i, by simpa using hF i _ hx hp⟩
  have := key xs.length 0 (by omega)
  rwa [List.drop_zero] at this
theorem any_notall {α : Type} (l : List α) (p : α → Bool) : l.any (fun x => !p x) = !l.all p := by
  induction l with
  | nil => rfl
  | cons x r ih => simp [ih]
end Go.LS
namespace Go.LS
theorem dlt {i n : Nat} (h : i < n) : decide ((i : Int) < ((n : Nat) : Int)) = true := decide_eq_true (by omega)
theorem dlt_n {n : Nat} : decide (((n : Nat) : Int) < ((n : Nat) : Int)) = false := decide_eq_false (by omega)
theorem ifE {lp : LProg} {f : FuncId} {a : List LV} {s : List LObj} {x y : LV × List LObj} (h : Runs lp f a s x) (e : x = y) : Runs lp f a s y := e ▸ h
end Go.LS
set_option linter.unusedVariables false
namespace Go.LS
def digsB : List UInt8 → Int → Option Int
  | [], n => some n
  | c :: r, n => if c.toNat < 48 || 57 < c.toNat then none else digsB r (10 * n + ((c.toNat : Int) - 48))
def idxB (s : List UInt8) : Option Int :=
  if s.length < 1 || 3 < s.length || (1 < s.length && (s.getD 0 0).toNat == 48) then none else digsB s 0
theorem decode_ascii4 {s : List UInt8} {i : Nat} (h : (s.getD i 0).toNat < 128) : Utf8.decode ⟨s.toArray⟩ i = ((s.getD i 0).toNat, 1) := by
  have e : (ByteArray.get! ⟨s.toArray⟩ (i + 0)) = s.getD i 0 := by
    show s.toArray[i]! = _
    simp [List.getD]
    rfl
  unfold Utf8.decode
  simp only [e]
  rw [if_pos h]
theorem decode_high4 {s : List UInt8} {i : Nat} (h : ¬ (s.getD i 0).toNat < 128) : 128 ≤ (Utf8.decode ⟨s.toArray⟩ i).1 := by
  have e : (ByteArray.get! ⟨s.toArray⟩ (i + 0)) = s.getD i 0 := by
    show s.toArray[i]! = _
    simp [List.getD]
    rfl
  unfold Utf8.decode
  simp only [e]
  rw [if_neg h]
  repeat' split
  all_goals simp_all [Utf8.runeError, Utf8.valid]
  all_goals omega
theorem ixW32 {n : Int} {c : UInt8} (h0 : 0 ≤ n) (h1 : n ≤ 99) (c0 : ¬ c.toNat < 48) (c1 : ¬ 57 < c.toNat) :
    IntKind.wrap .i64 (IntKind.wrap .i64 (10 * n) + IntKind.wrap .i64 (IntKind.wrap .i32 ((c.toNat : Int) - 48))) = 10 * n + ((c.toNat : Int) - 48) := by
  have e : IntKind.wrap .i32 ((c.toNat : Int) - 48) = (c.toNat : Int) - 48 := by
    simp only [IntKind.wrap, IntKind.bits, IntKind.signed]
    simp
    omega
  rw [e, wrap_i64 (n := (c.toNat : Int) - 48) (by omega) (by omega), wrap_i64 (n := 10 * n) (by omega) (by omega), wrap_i64 (by omega) (by omega)]
theorem ixW8 {n : Int} {c : UInt8} (h0 : 0 ≤ n) (h1 : n ≤ 99) (c0 : ¬ c.toNat < 48) (c1 : ¬ 57 < c.toNat) :
    IntKind.wrap .i64 (IntKind.wrap .i64 (10 * n) + IntKind.wrap .i64 (IntKind.wrap .u8 ((c.toNat : Int) - 48))) = 10 * n + ((c.toNat : Int) - 48) := by
  have e : IntKind.wrap .u8 ((c.toNat : Int) - 48) = (c.toNat : Int) - 48 := by
    simp only [IntKind.wrap, IntKind.bits, IntKind.signed]
    simp
    omega
  rw [e, wrap_i64 (n := (c.toNat : Int) - 48) (by omega) (by omega), wrap_i64 (n := 10 * n) (by omega) (by omega), wrap_i64 (by omega) (by omega)]
theorem digs_pos : ∀ (l : List UInt8) (n r : Int), 0 ≤ n → digsB l n = some r → 0 ≤ r
  | [], n, r, h, e => by simp only [digsB, Option.some.injEq] at e; omega
  | c :: l, n, r, h, e => by
    simp only [digsB] at e
    split at e
    · simp at e
    · rename_i hc
      simp only [Bool.or_eq_true, decide_eq_true_eq, not_or] at hc
      exact digs_pos l _ r (by omega) e
theorem opIs_nextE {s : List UInt8} {i : Nat} {st : List LObj} (hs : st[0]? = some (.siter s i)) (h : ¬ i < s.length) :
    opStep noCall [] st (.next (.const (.it 0))) = some (.tup [.p (.bool false)], st) := by
  simp only [opStep, LX.ev, hs, if_neg h]
theorem opIs_nextA {s : List UInt8} {i : Nat} {st : List LObj} (hs : st[0]? = some (.siter s i)) (h : i < s.length) (ha : (s.getD i 0).toNat < 128) :
    opStep noCall [] st (.next (.const (.it 0))) = some (.tup [.p (.bool true), .p (.int .i64 (i : Int)), .p (.int .i32 ((s.getD i 0).toNat : Int))], st.set 0 (.siter s (i + 1))) := by
  simp only [opStep, LX.ev, hs, if_pos h, decode_ascii4 ha]
theorem opIs_nextH {s : List UInt8} {i : Nat} {st : List LObj} (hs : st[0]? = some (.siter s i)) (h : i < s.length) :
    opStep noCall [] st (.next (.const (.it 0))) = some (.tup [.p (.bool true), .p (.int .i64 (i : Int)), .p (.int .i32 ((Utf8.decode ⟨s.toArray⟩ i).1 : Int))], st.set 0 (.siter s (i + (Utf8.decode ⟨s.toArray⟩ i).2))) := by
  simp only [opStep, LX.ev, hs, if_pos h]
theorem opIs_appNR {tg : Nat} {E X : List (List UInt8)} {st : List LObj} (hs : st[tg]? = some (.spare 1 (List.length (rowsN E)))) (hb : (E.length + X.length) * 16 ≤ 140737488355328) :
    opStep noCall [] st (.append false 1 16 (.const (.sl (rowsN E) tg (List.length (rowsN E)))) (.const (.p (.sl (rowsN X))))) =
      some (.sl (rowsN (E ++ X)) tg (List.length (rowsN (E ++ X))), st.set tg (.spare 1 (List.length (rowsN (E ++ X))))) := by
  have := opIs_appSE (size := 1) (bytes := 16) (tg := tg) (E := rowsN E) (X := rowsN X) (st := st) (x := .p (.sl (rowsN X))) hs rfl (rowsN_sized X)
    (by rw [rowsN_len, rowsN_len]; exact hb) (by rw [rowsN_len, rowsN_len]; omega) (by decide)
  rw [this, rowsN_append]
theorem opIs_appN0 {X : List (List UInt8)} {st : List LObj} (h : decide (X = []) = true) :
    opStep noCall [] st (.append false 1 16 (.const (.tight [])) (.const (.p (.sl (rowsN X))))) = some (.tight [], st) := by
  have h := of_decide_eq_true h
  subst h
  rfl
theorem opIs_appNX {X : List (List UInt8)} {st : List LObj} (h : decide (X = []) = false) (hb : X.length * 16 ≤ 140737488355328) :
    opStep noCall [] st (.append false 1 16 (.const (.tight [])) (.const (.p (.sl (rowsN X))))) = some (.sl (rowsN X) st.length (List.length (rowsN X)), st ++ [.spare 1 (List.length (rowsN X))]) := by
  have h := of_decide_eq_false h
  have := opIs_appTE (size := 1) (bytes := 16) (E := []) (X := rowsN X) (st := st) (x := .p (.sl (rowsN X))) rfl rfl (rowsN_sized X) (fun hh => h (by cases X with | nil => rfl | cons a b => simp [rowsN] at hh)) (by rw [rowsN_len]; simp; omega) (by rw [rowsN_len]; simp; omega) (by decide)
  simpa using this
end Go.LS
set_option linter.unusedVariables false
namespace Go.LS
def idxN (s : List UInt8) : List (List UInt8) → Int → Int
  | [], _ => -1
  | x :: r, i => if s == x then i else idxN s r (i + 1)
def placeV : Val → List UInt8 → Int
  | .mk k _ _ is ns, s => if k == 7 then idxN s ns 0 else if k == 6 then (if Option.getD (idxB s) (-1) < (is.length : Int) then Option.getD (idxB s) (-1) else -1) else -1
theorem idxN_none {s : List UInt8} : ∀ (l : List (List UInt8)) (i : Int), l.contains s = false → idxN s l i = -1
  | [], _, _ => rfl
  | x :: r, i, h => by
    simp only [List.contains_cons, Bool.or_eq_false_iff] at h
    rw [idxN, h.1]
    exact idxN_none r _ h.2
theorem opIs_idxZ {size : Nat} {es : List (List PV)} {e : List PV} {j : Int} {st : List LObj} (h0 : 0 ≤ j) (he : es[Int.toNat j]? = some e) (hz : e.length = size) :
    opStep noCall [] st (.indexAddr size (.const (.p (.sl es))) (.const (.p (.int .i64 j)))) = some (.pin e 0, st) := by
  have h1 : ¬ (j < 0) := by omega
  simp only [opStep, LX.ev, LV.asInt, if_neg h1, LV.asSl, he, hz, if_true]
def itemsV5 : Val → List Val | .mk _ _ _ is _ => is
def getV : List (List UInt8) → Val → Option Val
  | [], v => some v
  | s :: r, v => if placeV v s < 0 then none else match (itemsV5 v)[(placeV v s).toNat]? with
    | some x => getV r x
    | none => none
end Go.LS
namespace Go.LS
def kindV : Val → Int | .mk k _ _ _ _ => k
def zeroV : Val := .mk 0 0 [] [] []
def gtV (v : Val) (ps : List (List UInt8)) (p : Bool) : Option Val := if (kindV v == 7 && p) = true then getV ps v else none
end Go.LS
namespace Go.LS
def docV (v : Val) : Bool := kindV v == 7 && mayV v
end Go.LS
namespace Go.LS
def kV : Val → Int | .mk k _ _ _ _ => k
def nV : Val → Int | .mk _ n _ _ _ => n
def sV : Val → List UInt8 | .mk _ _ s _ _ => s
def iV : Val → List Val | .mk _ _ _ i _ => i
def mV : Val → List (List UInt8) | .mk _ _ _ _ m => m
def chkV (v : Val) (ps : List (List UInt8)) (p : Bool) : Int := if docV v = true then (if p = true then 0 else 40) else 20
end Go.LS
set_option linter.unusedVariables false
set_option linter.unusedSimpArgs false
namespace Go.LS
def rowS (es : List (List PV)) : List (List LV) := es.map fun e => e.map LV.p
theorem refs_p (e : List PV) : (e.map LV.p).flatMap LV.refs = [] := by
  induction e with
  | nil => rfl
  | cons a b ih => rw [List.map_cons, List.flatMap_cons, ih]; rfl
theorem rowS_refs (es : List (List PV)) : (LObj.row (rowS es)).refs = [] := by
  simp only [LObj.refs, rowS]
  induction es with
  | nil => rfl
  | cons e r ih => rw [List.map_cons, List.flatMap_cons, ih, refs_p]; rfl
theorem rowS_ren (es : List (List PV)) (f : Nat → Nat) : (LObj.row (rowS es)).ren f = .row (rowS es) := by
  simp only [LObj.ren, rowS, List.map_map]
  congr 1
  apply List.map_congr_left
  intro e _
  simp only [Function.comp, List.map_map]
  apply List.map_congr_left
  intro c _
  rfl
theorem rowS_len (es : List (List PV)) : (rowS es).length = es.length := by simp [rowS]
theorem rowS_get {es : List (List PV)} {i : Nat} {e : List PV} (h : es[i]? = some e) : (rowS es)[i]? = some (e.map .p) := by simp [rowS, h]
theorem rowS_app (a b : List (List PV)) : rowS (a ++ b) = rowS a ++ rowS b := by simp [rowS]
theorem toPVs_p (e : List PV) : toPVs (e.map LV.p) = some e := by
  induction e with
  | nil => rfl
  | cons a b ih => simp only [List.map_cons, toPVs, ih, LV.toPV]
theorem rowS_rowPV : ∀ (es : List (List PV)), rowPV (rowS es) = some es
  | [] => rfl
  | e :: r => by
    have := rowS_rowPV r
    simp only [rowS, List.map_cons] at this ⊢
    simp only [rowPV, toPVs_p, this]
theorem rowS_take (es : List (List PV)) (n : Nat) : (rowS es).take n = rowS (es.take n) := by simp [rowS]
theorem rowS_set (es : List (List PV)) (i : Nat) (e : List PV) : (rowS es).set i (e.map .p) = rowS (es.set i e) := by simp [rowS, List.map_set]
theorem sizedL_rowS {n : Nat} {es : List (List PV)} (h : sized n es = true) : sizedL n (rowS es) = true := by
  simp only [sizedL, rowS, sized, List.all_map] at h ⊢
  rw [List.all_eq_true] at h ⊢
  intro e he
  simpa using h e he
theorem opIs_idxRS {o n k size : Nat} {X : List (List PV)} {e : List PV} {st : List LObj} (hs : st[o]? = some (.row (rowS X))) (hk : k < n) (he : X[k]? = some e) (hz : e.length = size) {j : Int} (hj : j = (k : Int)) :
    opStep noCall [] st (.indexAddr size (.const (.rs o 0 n)) (.const (.p (.int .i64 j)))) = some (.ptr o k 0, st) := by
  subst hj
  have h1 : ¬ ((k : Int) < 0) := by omega
  have h2 : (k : Int) < (n : Int) := by omega
  simp only [opStep, LX.ev, LV.asInt, if_neg h1, if_pos h2, hs, Int.toNat_natCast, Nat.zero_add, rowS_get he, List.length_map, hz, if_true]
theorem opIs_ldRS {o k : Nat} {X : List (List PV)} {x : PV} {st : List LObj} (hs : st[o]? = some (.row (rowS X))) (he : X[k]? = some [x]) :
    opStep noCall [] st (.load false 1 (.const (.ptr o k 0))) = some (.p x, st) := by
  simp only [opStep, LX.ev, LV.ldAt, hs, rowS_get he, List.map_cons, List.map_nil]
  rfl
theorem opIs_stRS {o k : Nat} {X : List (List PV)} {x y : PV} {st : List LObj} (hs : st[o]? = some (.row (rowS X))) (he : X[k]? = some [x]) :
    opStep noCall [] st (.store 1 (.const (.ptr o k 0)) (.const (.p y))) = some (.tup [], st.set o (.row (rowS (X.set k [y])))) := by
  have e := rowS_set X k [y]
  simp only [List.map_cons, List.map_nil] at e
  simp only [opStep, LX.ev, LV.cells?, LV.stAt, hs, rowS_get he, List.map_cons, List.map_nil, List.length_cons, List.length_nil, if_true, Nat.zero_add, Nat.le_refl, List.take_zero, List.nil_append, List.drop_one, List.tail_cons, List.append_nil, e]
theorem opIs_appRS {o n size bytes : Nat} {X Y : List (List PV)} {x : LV} {st : List LObj} (hs : st[o]? = some (.row (rowS X))) (hn : n = X.length) (hx : x.asSl = some Y) (hr : ∀ a b c, x ≠ .rs a b c) (hX : sized size X = true) (hY : sized size Y = true) (hne : Y ≠ []) (h1 : 0 < X.length)
    (hb : (X.length + Y.length) * bytes ≤ 140737488355328) (hm : X.length + Y.length ≤ maxLen) (h0 : 0 < size) :
    opStep noCall [] st (.appendR size bytes (.const (.rs o 0 n)) (.const x)) = some (.rs st.length 0 (X.length + Y.length), st.set o .dead ++ [.row (rowS (X ++ Y))]) := by
  subst hn
  have ha : appendedR st x = some (rowS Y) := by
    cases x <;> simp only [appendedR, hx, rowS]
    rename_i a b c
    exact absurd rfl (hr a b c)
  have hYe : (rowS Y).isEmpty = false := by cases Y with | nil => exact absurd rfl hne | cons a b => rfl
  have hc : X.length = (rowS X).length ∧ 0 < X.length ∧ sizedL size (rowS X) = true ∧ roomy (X.length + (rowS Y).length) bytes = true ∧ X.length + (rowS Y).length ≤ maxLen ∧ 0 < size := by
    refine ⟨(rowS_len X).symm, h1, sizedL_rowS hX, ?_, ?_, h0⟩
    · rw [rowS_len]; exact roomy_of hb
    · rw [rowS_len]; exact hm
  simp only [opStep, LX.ev, rappend, ha, sizedL_rowS hY, Bool.not_true, Bool.false_eq_true, if_false, hs, hYe]
  rw [if_pos hc, rowS_app, rowS_len]
theorem opIs_mkRS {size bytes n : Nat} {z : List PV} {st : List LObj} {c : Int} (hc : c = (n : Int)) (hn : 0 < n) (hb : c * (bytes : Int) ≤ 281474976710656) (hm : c ≤ maxLen) (hz : z.length = size) (h0 : 0 < size) :
    opStep noCall [] st (.mkslice size bytes (z.map .p) (.const (.p (.int .i64 c))) (.const (.p (.int .i64 c)))) = some (.rs st.length 0 n, st ++ [.row (rowS (List.replicate n z))]) := by
  subst hc
  have h1 : ¬ ((n : Int) = 0 ∧ 0 < (n : Int)) := by omega
  have h2 : 0 ≤ (n : Int) ∧ (n : Int) ≤ (n : Int) ∧ (n : Int) * (bytes : Int) ≤ 281474976710656 ∧ (n : Int) ≤ maxLen ∧ (z.map LV.p).length = size ∧ 0 < size := ⟨by omega, by omega, hb, hm, by simp [hz], h0⟩
  simp only [opStep, LX.ev, LV.asInt]
  rw [if_pos h2, if_neg h1]
  simp [rowS]
theorem opIs_sliceRS {o n k size : Nat} {X : List (List PV)} {e : List PV} {st : List LObj} (hs : st[o]? = some (.row (rowS X))) (hk : k ≤ X.length) (hn : n ≤ X.length) (he : X[0]? = some e) (hz : e.length = size) {j : Int} (hj : j = (k : Int)) :
    opStep noCall [] st (.slice size (.const (.rs o 0 n)) none (some (.const (.p (.int .i64 j)))) none) = some (.rs o 0 k, st) := by
  subst hj
  have h0 : 0 < X.length := (List.getElem?_eq_some_iff.1 he).1
  have h1 : 0 ≤ (k : Int) ∧ (k : Int) ≤ (((rowS X).length - 0 : Nat) : Int) := by rw [rowS_len]; omega
  have h2 : (0 : Int) ≤ 0 ∧ (0 : Int) ≤ (k : Int) := by omega
  have h3 : 0 < (rowS X).length - 0 ∧ 0 + n ≤ (rowS X).length := by rw [rowS_len]; omega
  simp only [opStep, LX.ev, rslice, bnd, Option.map_none, Option.map_some, hs]
  rw [if_pos h1]
  simp only [Int.toNat_natCast]
  rw [if_pos h3]
  simp only [rowS_get he, List.length_map, hz, if_true, Nat.add_zero, Nat.sub_zero]
theorem frz_row {o n : Nat} {X X' : List (List PV)} {st : List LObj} (hs : st[o]? = some (.row (rowS X))) (hn : n ≤ X.length) (hx : X.take n = X') : frz true st [.rs o 0 n] = ([.p (.sl X')], st.set o .dead) := by
  subst hx
  have e : ((rowS X).drop 0).take n = rowS (X.take n) := by rw [List.drop_zero, rowS_take]
  have hl : 0 + n ≤ (rowS X).length := by rw [rowS_len]; omega
  simp only [frz, frzL, frz1, frzC, hs, if_pos hl, e, rowS_rowPV]
theorem callAt_pure {lp : LProg} {f : FuncId} {args : List LV} {st st1 st' : List LObj} {r v : LV} (h : Runs lp f args [] (r, st1)) (hw : wk (lp.weak f) args = args) (h0 : args.flatMap LV.refs = []) (hr : args.map (LV.ren fun q => ([] : List Nat).idxOf q) = args)
    (hv : r.ren (back [] st.length) = v) (hs : st ++ st1.map (LObj.ren (back [] st.length)) = st') : CallAt lp f args st (v, st') := by
  have hk : callO lp f args st r st1 = some (v, st', Runs lp f args [] (r, st1)) := by
    unfold callO
    simp only [hw, h0]
    have e1 : reach st 100000 [] [] = [] := rfl
    rw [e1]
    simp only [hr]
    have e2 : sub st [] = [] := rfl
    have e3 : (closed st [] && ([] : List Nat).all (([] : List Nat).contains ·) && decide ([] : List Nat).Nodup) = true := rfl
    rw [if_pos e3, if_pos (show ([] : List Nat).length ≤ st1.length from Nat.zero_le _), e2, hv]
    simp only [List.length_nil, List.take_zero, List.map_nil, putBack, List.drop_zero]
    rw [hs]
  obtain ⟨n, hn⟩ := callO_sound hk h
  exact ⟨n, hn⟩
def oG {lp : LProg} {k : Nat} {x : List Bool × LCode} {t1 t t' : List LV} {st1 st st' : List LObj} {o : LOut} (_ : gc k t1 st1 = some (t, st)) (_ : LoopN lp k x t st (o, t', st')) : Orc := .lg o t' st' t st
def oA {lp : LProg} {f : FuncId} {args : List LV} {st st' : List LObj} {v : LV} (_ : CallAt lp f args st (v, st')) : Orc := .cg v st'
theorem rowsN_at {xs : List (List UInt8)} {i : Nat} {x : List UInt8} (h : xs[i]? = some x) : (rowsN xs)[i]? = some [.str x] := by
  simp only [rowsN, List.getElem?_map, h]; rfl
theorem rowsN_set (xs : List (List UInt8)) (i : Nat) (x : List UInt8) : (rowsN xs).set i [.str x] = rowsN (xs.set i x) := by simp [rowsN, List.map_set]
end Go.LS
namespace Go.LS
theorem frz_names {o : Nat} {xs : List (List UInt8)} {st : List LObj} (hs : st[o]? = some (.row (rowS (rowsN xs)))) : frz true st [.rs o 0 (List.length xs)] = ([.p (.sl (rowsN xs))], st.set o .dead) :=
  frz_row hs (by rw [rowsN_len]; exact Nat.le_refl _) (by rw [← rowsN_len xs]; exact List.take_length)
theorem frz_namesT {o k : Nat} {xs : List (List UInt8)} {st : List LObj} (hs : st[o]? = some (.row (rowS (rowsN xs)))) (hk : k ≤ xs.length) : frz true st [.rs o 0 k] = ([.p (.sl (rowsN (xs.take k)))], st.set o .dead) :=
  frz_row hs (by rw [rowsN_len]; exact hk) (rowsN_take _ _)
theorem opIs_idxN {o n k : Nat} {xs : List (List UInt8)} {st : List LObj} (hs : st[o]? = some (.row (rowS (rowsN xs)))) (hk : k < n) (he : k < xs.length) {j : Int} (hj : j = (k : Int)) :
    opStep noCall [] st (.indexAddr 1 (.const (.rs o 0 n)) (.const (.p (.int .i64 j)))) = some (.ptr o k 0, st) := opIs_idxRS hs hk (rowsN_get he) rfl hj
theorem opIs_ldN {o k : Nat} {xs : List (List UInt8)} {st : List LObj} (hs : st[o]? = some (.row (rowS (rowsN xs)))) (he : k < xs.length) :
    opStep noCall [] st (.load false 1 (.const (.ptr o k 0))) = some (.p (.str (xs.getD k [])), st) := opIs_ldRS hs (rowsN_get he)
theorem opIs_stN {o k : Nat} {xs : List (List UInt8)} {y : List UInt8} {st : List LObj} (hs : st[o]? = some (.row (rowS (rowsN xs)))) (he : k < xs.length) :
    opStep noCall [] st (.store 1 (.const (.ptr o k 0)) (.const (.p (.str y)))) = some (.tup [], st.set o (.row (rowS (rowsN (xs.set k y))))) := by
  rw [← rowsN_set]; exact opIs_stRS hs (rowsN_get he)
theorem opIs_appNS' {o n : Nat} {xs : List (List UInt8)} {y : List UInt8} {st : List LObj} (hs : st[o]? = some (.row (rowS (rowsN xs)))) (hn : n = xs.length) (h1 : 0 < xs.length) (hb : (xs.length + 1) * 16 ≤ 140737488355328) :
    opStep noCall [] st (.appendR 1 16 (.const (.rs o 0 n)) (.const (.tight [[.str y]]))) = some (.rs st.length 0 (xs ++ [y]).length, st.set o .dead ++ [.row (rowS (rowsN (xs ++ [y])))]) := by
  have := opIs_appRS (size := 1) (bytes := 16) (Y := [[.str y]]) (x := .tight [[.str y]]) (n := n) hs (by rw [rowsN_len]; exact hn) rfl (fun a b c h => by cases h) (rowsN_sized xs) rfl (by simp) (by rw [rowsN_len]; exact h1) (by rw [rowsN_len]; simpa using hb) (by rw [rowsN_len]; simp [maxLen]; omega) (by decide)
  rw [this, rowsN_len, rowsN_append]
  simp [rowsN]
theorem opIs_mkN {n : Nat} {st : List LObj} {c : Int} (hc : c = (n : Int)) (hn : 0 < n) (hb : n ≤ 8796093022208) :
    opStep noCall [] st (.mkslice 1 16 [.p (.str [])] (.const (.p (.int .i64 c))) (.const (.p (.int .i64 c)))) = some (.rs st.length 0 n, st ++ [.row (rowS (rowsN (List.replicate n [])))]) := by
  have := opIs_mkRS (size := 1) (bytes := 16) (z := [.str []]) (st := st) hc hn (by omega) (by simp [maxLen]; omega) rfl (by decide)
  have e : rowsN (List.replicate n []) = List.replicate n [PV.str []] := by simp [rowsN]
  rw [e]
  exact this
theorem opIs_sliceN {o n k : Nat} {xs : List (List UInt8)} {st : List LObj} (hs : st[o]? = some (.row (rowS (rowsN xs)))) (hk : k ≤ xs.length) (hn : n ≤ xs.length) (he : 0 < xs.length) {j : Int} (hj : j = (k : Int)) :
    opStep noCall [] st (.slice 1 (.const (.rs o 0 n)) none (some (.const (.p (.int .i64 j)))) none) = some (.rs o 0 k, st) := opIs_sliceRS hs (by rw [rowsN_len]; exact hk) (by rw [rowsN_len]; exact hn) (rowsN_get he) rfl hj
end Go.LS
namespace Go.LS
theorem opIs_appRT {size bytes : Nat} {X : List (List PV)} {st : List LObj} (hX : sized size X = true) (hne : X ≠ []) (hb : X.length * bytes ≤ 140737488355328) (hm : X.length ≤ maxLen) (h0 : 0 < size) :
    opStep noCall [] st (.appendR size bytes (.const (.tight [])) (.const (.p (.sl X)))) = some (.rs st.length 0 X.length, st ++ [.row (rowS X)]) := by
  have ha : appendedR st (.p (.sl X)) = some (rowS X) := rfl
  have hYe : (rowS X).isEmpty = false := by cases X with | nil => exact absurd rfl hne | cons a b => rfl
  have hc : roomy (rowS X).length bytes = true ∧ (rowS X).length ≤ maxLen ∧ 0 < size := ⟨by rw [rowS_len]; exact roomy_of hb, by rw [rowS_len]; exact hm, h0⟩
  simp only [opStep, LX.ev, rappend, ha, sizedL_rowS hX, Bool.not_true, Bool.false_eq_true, if_false, hYe]
  rw [if_pos hc, rowS_len]
def notRs : LV → Bool
  | .rs _ _ _ => false
  | _ => true
theorem frzC_plain (st : List LObj) (v : LV) (h : notRs v = true) : frzC st v = (v.weak1, st) := by cases v <;> first | rfl | simp [notRs] at h
theorem frzCs_plain : ∀ (st : List LObj) (a : List LV), a.all notRs = true → frzCs st a = (a.map LV.weak1, st)
  | st, [], _ => rfl
  | st, v :: r, h => by
    simp only [List.all_cons, Bool.and_eq_true] at h
    simp only [frzCs, frzC_plain st v h.1, frzCs_plain st r h.2, List.map_cons]
theorem frzCs_app (st : List LObj) : ∀ (a b : List LV), frzCs st (a ++ b) = ((frzCs st a).1 ++ (frzCs (frzCs st a).2 b).1, (frzCs (frzCs st a).2 b).2) := by
  intro a
  induction a generalizing st with
  | nil => intro b; rfl
  | cons v r ih => intro b; simp only [List.cons_append, frzCs, ih]
theorem frzC_names {o : Nat} {xs : List (List UInt8)} {st : List LObj} (hs : st[o]? = some (.row (rowS (rowsN xs)))) : frzC st (.rs o 0 (List.length xs)) = (.p (.sl (rowsN xs)), st.set o .dead) := by
  have h := frz_names hs
  simp only [frz, frzL, frz1] at h
  have h1 := congrArg Prod.fst h
  have h2 := congrArg Prod.snd h
  simp only [List.cons.injEq, and_true] at h1
  exact Prod.ext h1 h2
theorem frz_agg1 {o : Nat} {xs : List (List UInt8)} {st : List LObj} {a b : List LV} (ha : a.all notRs = true) (hb : b.all notRs = true) (hs : st[o]? = some (.row (rowS (rowsN xs)))) :
    frz true st [.agg (a ++ .rs o 0 (List.length xs) :: b)] = ([.agg (a.map LV.weak1 ++ .p (.sl (rowsN xs)) :: b.map LV.weak1)], st.set o .dead) := by
  have e : frzCs st (a ++ .rs o 0 (List.length xs) :: b) = (a.map LV.weak1 ++ .p (.sl (rowsN xs)) :: b.map LV.weak1, st.set o .dead) := by
    rw [frzCs_app, frzCs_plain st a ha]
    simp only [frzCs, frzC_names hs, frzCs_plain _ b hb]
  simp only [frz, frzL, frz1, e]
end Go.LS

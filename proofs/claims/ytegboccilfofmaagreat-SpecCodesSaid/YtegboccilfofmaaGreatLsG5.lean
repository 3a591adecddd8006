/- A small semantics of loaded Go code that the kernel can run, part 5. -/
import Derived.Test.YtegboccilfofmaaGreatLsG4
import Derived.Lib.Bytealg
import Derived.Test.YtegboccilfofmaaGreatLsG1
import Derived.SizedLaws
import Derived.OpenShut
import Derived.Carry
import Derived.ChangeShapes
set_option linter.unusedVariables false
namespace Go.LS
def lpS (tab : List (Option LFn)) (weak wres : List Nat) (sm : List (Nat × (List LV → List LObj → Option (LV × List LObj)))) : Bp :=
 { fns := fun f => match tab[f]? with | some x => x | none => none, summ := fun f => (sm.find? fun x => x.1 == f).map (·.2), weak := fun f => weak.contains f, wres := fun f => wres.contains f }
theorem prS {P : Program} (tab : List (Option LFn)) (weak wres : List Nat) (sm : List (Nat × (List LV → List LObj → Option (LV × List LObj)))) (hs : ∀ x ∈ sm, Pj P x.1 x.2) (h : AllFR P 0 tab) : PR P (lpS tab weak wres sm) where
 fns f lf hf := by
  simp only [lpS] at hf
  split at hf
  ·rename_i x hx
   subst hf
   have := h.get f lf hx
   simpa using this
  ·cases hf
 summ f g h := by
  simp only [lpS, Option.map_eq_some_iff] at h
  obtain ⟨⟨f', g'⟩, h1, rfl⟩ := h
  have h2 := List.find?_some h1
  simp only [beq_iff_eq] at h2
  subst h2
  exact hs _ (List.mem_of_find?_eq_some h1)
def E2 (args : List LV) (st : List LObj) : Option (LV × List LObj) :=
 match args with
 | [.p (.str s), .p (.int .u8 c)] => some (.p (.int .i64 (Lib.indexByte s c.toNat.toUInt8)), st)
 | _ => none
theorem args2 {G : Gh} {p q : PV} {us : Array Value} (h : ArgsR G [.p p, .p q] us) : ∃ a b, us = #[a, b] ∧ VP G.F p a ∧ VP G.F q b := by
 have h1 := h.1
 simp only [List.length_cons, List.length_nil] at h1
 obtain ⟨l⟩ := us
 match l, h1 with
 | [a, b], _ =>
  have e1 := h.2 0 _ rfl
  have e2 := h.2 1 _ rfl
  refine ⟨a, b, rfl, ?_, ?_⟩
  ·cases e1; assumption
  ·cases e2; assumption
theorem N3 {P : Program} {f : FuncId} (hp : El P f = true)
  (h : ∀ (s : ByteArray) (c : Int) (w : World), Calls P f #[.string s, .int .u8 c] w fun e w' => e = .returned (.int .i64 (Lib.indexByte s.data.toList c.toNat.toUInt8)) ∧ w' = w) : Pj P f E2 := by
 refine ⟨hp, fun args st res st' hg G w us hw ha => ?_⟩
 unfold E2 at hg
 split at hg
 ·rename_i s c
  cases hg
  obtain ⟨a, b, rfl, h1, h2⟩ := args2 ha
  cases h1
  cases h2
  refine (h _ c w).mono ?_
  rintro e w' ⟨rfl, rfl⟩
  exact ⟨_, G, rfl, hw, .p (.int _ _), (Ext.refl _ _ _).to0⟩
 ·cases hg
end Go.LS
set_option linter.unusedVariables false
set_option linter.unusedSimpArgs false
namespace Go.LS
abbrev Gj (c c' : CallF) : Prop := ∀ f a s r, c f a s = some r → c' f a s = some r ∧ c'.weak f = c.weak f
theorem Jt {c c' : CallF} (h : Gj c c') {f : FuncId} {args : List LV} {st : List LObj} {r : LV × List LObj} (hr : C5 c f args st = some r) : C5 c' f args st = some r := by
 unfold C5 at hr ⊢
 simp only at hr ⊢
 split at hr
 ·rename_i hcl
  split at hr
  ·rename_i v st' hc
   obtain ⟨h1, h2⟩ := h _ _ _ _ hc
   rw [h2, if_pos hcl, h1]
   exact hr
  ·cases hr
 ·cases hr
theorem Hn {c c' : CallF} (h : Gj c c') {t : List LV} {st : List LObj} {op : LOp} {r : LV × List LObj} (hr : Am c t st op = some r) : Am c' t st op = some r := by
 cases op
 case call f args => simp only [Am] at hr ⊢; exact Jt h hr
 case callv f args =>
  simp only [Am] at hr ⊢
  split at hr
  ·exact Jt h hr
  ·cases hr
 all_goals exact hr
theorem Iz {c c' : CallF} (h : Gj c c') {t : List LV} {st : List LObj} {o : C6} {r : LV × List LObj} (hr : Cm c t st o = some r) : Cm c' t st o = some r := by
 unfold Cm at hr ⊢
 split at hr
 ·exact Hn h hr
 ·exact hr
 ·cases hr
theorem Ld {c c' : CallF} (h : Gj c c') : ∀ {l : List C6} {t : List LV} {st : List LObj} {r : List LV × List LObj}, Fo c l t st = some r → Fo c' l t st = some r
 | [], t, st, r, hr => hr
 | o :: l, t, st, r, hr => by
  simp only [Fo] at hr ⊢
  split at hr
  ·rename_i v st' hs
   rw [Iz h hs]
   exact Ld h hr
  ·cases hr
theorem Le {c c' : CallF} (h : Gj c c') {st : List LObj} {held : List (DOp × List LV × LV)} (hr : Fp c st held = true) : Fp c' st held = true := by
 unfold Fp at hr ⊢
 rw [List.all_eq_true] at hr ⊢
 intro x hx
 have := hr x hx
 split at this
 ·rename_i v s hs
  rw [Iz h hs]
  exact this
 ·cases this
theorem D8 {c c' : CallF} (h : Gj c c') : ∀ {l : List DOp} {held : List (DOp × List LV × LV)} {t : List LV} {st : List LObj} {r : List LV × List LObj}, Ch c l held t st = some r → Ch c' l held t st = some r
 | [], held, t, st, r, hr => hr
 | d :: l, held, t, st, r, hr => by
  simp only [Ch] at hr ⊢
  split at hr
  ·cases hr
  ·rename_i v st' hs
   rw [Iz h hs]
   simp only
   split at hr
   ·split at hr
    ·rename_i hp; rw [if_pos hp]; exact D8 h hr
    ·cases hr
   ·split at hr
    ·rename_i hp
     simp only [Bool.and_eq_true] at hp
     rw [if_pos (by simp [hp.1, Le h hp.2])]; exact D8 h hr
    ·cases hr
   ·split at hr
    ·rename_i hp
     simp only [Bool.and_eq_true] at hp
     rw [if_pos (by simp only [Bool.and_eq_true]; exact ⟨hp.1, Le h hp.2⟩)]; exact D8 h hr
    ·cases hr
theorem Ks (r : C1 × List LV × List LObj) : Dt (some r) (some r) = some r := by
 unfold Dt
 simp [LV.eqbs_refl, L6]
theorem Bd {c c' : CallF} (h : Gj c c') {k : Nat} : ∀ {n m : Nat}, n ≤ m → ∀ {lc : Bm} {t : List LV} {st : List LObj} {r : C1 × List LV × List LObj}, A8 c k n lc t st = some r → A8 c' k m lc t st = some r
 | 0, m, _, lc, t, st, r, hr => by simp [A8] at hr
 | n + 1, 0, hnm, lc, t, st, r, hr => by omega
 | n + 1, m + 1, hnm, lc, t, st, r, hr => by
  have hle : n ≤ m := by omega
  cases lc with
  | skip => exact hr
  | exit id mask => exact hr
  | ret mask => exact hr
  | fail => simp [A8] at hr
  | region ops =>
   simp only [A8] at hr ⊢
   split at hr
   ·rename_i t' st' hs
    rw [Ld h hs]; exact hr
   ·cases hr
  | drawn ops =>
   simp only [A8] at hr ⊢
   split at hr
   ·rename_i t' st' hs
    rw [D8 h hs]; exact hr
   ·cases hr
  | seq a b =>
   have go : ∀ {la : Bm} {r}, C7 (A8 c k n la t st) (A8 c k n b) = some r → C7 (A8 c' k m la t st) (A8 c' k m b) = some r := by
    intro la r hr
    cases ha : A8 c k n la t st with
    | none => rw [ha] at hr; cases hr
    | some x =>
     rw [ha] at hr
     rw [Bd h hle ha]
     obtain ⟨o, t', st'⟩ := x
     cases o with
     | normal => exact Bd h hle hr
     | _ => exact hr
   simp only [A8] at hr ⊢
   exact go hr
  | Dt x a b d =>
   have go : ∀ {la : Bm} {r}, C7 (A8 c k n la t st) (A8 c k n d) = some r → C7 (A8 c' k m la t st) (A8 c' k m d) = some r := by
    intro la r hr
    cases ha : A8 c k n la t st with
    | none => rw [ha] at hr; cases hr
    | some x =>
     rw [ha] at hr
     rw [Bd h hle ha]
     obtain ⟨o, t', st'⟩ := x
     cases o with
     | normal => exact Bd h hle hr
     | _ => exact hr
   simp only [A8] at hr ⊢
   split at hr
   ·exact go hr
   ·exact go hr
   ·obtain ⟨e1, e2⟩ := I9 hr
    rw [go e1, go e2]
    exact Ks r
   ·cases hr
  | cond x a b =>
   simp only [A8] at hr ⊢
   split at hr
   ·exact Bd h hle hr
   ·exact Bd h hle hr
   ·obtain ⟨e1, e2⟩ := I9 hr
    rw [Bd h hle e1, Bd h hle e2]
    exact Ks r
   ·cases hr
  | block id mask a =>
   simp only [A8] at hr ⊢
   cases ha : A8 c k n a t st with
   | none => rw [ha] at hr; cases hr
   | some x =>
    rw [ha] at hr
    rw [Bd h hle ha]
    exact hr
  | loop mask a =>
   simp only [A8] at hr ⊢
   split at hr
   ·rename_i t0 st0 hg
    cases ha : A8 c k n a t0 st0 with
    | none => rw [ha] at hr; cases hr
    | some x =>
     rw [ha] at hr
     rw [Bd h hle ha]
     obtain ⟨o, t', st'⟩ := x
     cases o with
     | normal => exact Bd h hle hr
     | _ => exact hr
   ·cases hr
theorem Ca {lp : Bp} : ∀ {n m : Nat}, n ≤ m → Gj (D0 lp n) (D0 lp m)
 | 0, m, _ => fun f a s r h => by simp [D0] at h
 | n + 1, 0, hnm => by omega
 | n + 1, m + 1, hnm => by
  intro f a s r h
  refine ⟨?_, rfl⟩
  simp only [D0] at h ⊢
  split at h
  ·exact h
  ·split at h
   ·cases h
   ·rename_i lf hlf
    split at h
    ·cases h
    ·rename_i out t' st' hne hex
     rw [Bd (Ca (show n ≤ m by omega)) (show n ≤ m by omega) hex]
     simp only
     cases out with
     | exit i => exact (hne i rfl).elim
     | _ => exact h
    ·cases h
def Runs (lp : Bp) (f : FuncId) (args : List LV) (st : List LObj) (r : LV × List LObj) : Prop := ∃ n, D0 lp n f args st = some r
def Exec (lp : Bp) (k : Nat) (c : Bm) (t : List LV) (st : List LObj) (r : C1 × List LV × List LObj) : Prop := ∃ n, A8 (D0 lp n) k n c t st = some r
theorem Exec.at {lp : Bp} {k : Nat} {c : Bm} {t : List LV} {st : List LObj} {r : C1 × List LV × List LObj} (h : Exec lp k c t st r) : ∃ n, ∀ m, n ≤ m → A8 (D0 lp m) k m c t st = some r :=
 let ⟨n, hn⟩ := h
 ⟨n, fun m hm => Bd (Ca hm) hm hn⟩
theorem Runs.at {lp : Bp} {f : FuncId} {args : List LV} {st : List LObj} {r : LV × List LObj} (h : Runs lp f args st r) : ∃ n, ∀ m, n ≤ m → D0 lp m f args st = some r :=
 let ⟨n, hn⟩ := h
 ⟨n, fun m hm => (Ca hm _ _ _ _ hn).1⟩
end Go.LS
set_option linter.unusedVariables false
set_option linter.unusedSimpArgs false
namespace Go.LS
inductive Orc where
 | b (c : Bool)
 | op (v : LV) (st : List LObj)
 | call (v : LV) (st : List LObj)
 | lp (out : C1) (t : List LV) (st : List LObj)
abbrev Os := List (Nat × Orc)
def tick : Os → Option Orc × Os
 | (0, o) :: r => (some o, r)
 | (n + 1, o) :: r => (none, (n, o) :: r)
 | [] => (none, [])
def LX.inst (t : List LV) (x : LX) : LX := .const (x.ev t)
def A2 : CallF := ⟨fun _ _ _ => none, fun _ => false⟩
def LOp.inst (t : List LV) : LOp → LOp
 | .mv x => .mv (x.inst t)
 | .pick c a b => .pick (c.inst t) (a.inst t) (b.inst t)
 | .alloc z => .alloc z
 | .box x => .box (x.inst t)
 | .build z ps => .build z (ps.map fun p => (p.1, p.2.1, p.2.2.inst t))
 | .mkrow r s l z ps => .mkrow r s l z (ps.map fun p => (p.1, p.2.inst t))
 | .load a n x => .load a n (x.inst t)
 | .store n x v => .store n (x.inst t) (v.inst t)
 | .nilChk x => .nilChk (x.inst t)
 | .bin o x y => .bin o (x.inst t) (y.inst t)
 | .beq o x y => .beq o (x.inst t) (y.inst t)
 | .peq o x y => .peq o (x.inst t) (y.inst t)
 | .nileq o k x => .nileq o k (x.inst t)
 | .un o x => .un o (x.inst t)
 | .cv k x => .cv k (x.inst t)
 | .fn f cs => .fn f (cs.map (LX.inst t))
 | .fnm f fs cs => .fnm f (fs.map (LX.inst t)) (cs.map (LX.inst t))
 | .clearS z x => .clearS z (x.inst t)
 | .appendR n m a b => .appendR n m (a.inst t) (b.inst t)
 | .iface ty x => .iface ty (x.inst t)
 | .mkmap => .mkmap
 | .mkslice a b z l c => .mkslice a b z (l.inst t) (c.inst t)
 | .sslice x a b c => .sslice (x.inst t) (a.map (LX.inst t)) (b.map (LX.inst t)) (c.map (LX.inst t))
 | .slice n x a b c => .slice n (x.inst t) (a.map (LX.inst t)) (b.map (LX.inst t)) (c.map (LX.inst t))
 | .fieldAddr n x => .fieldAddr n (x.inst t)
 | .field g n m x => .field g n m (x.inst t)
 | .indexAddr n x i => .indexAddr n (x.inst t) (i.inst t)
 | .arrAddr n m x i => .arrAddr n m (x.inst t) (i.inst t)
 | .index x i => .index (x.inst t) (i.inst t)
 | .arrIndex g n m x i => .arrIndex g n m (x.inst t) (i.inst t)
 | .lookup k z o x i => .lookup k z o (x.inst t) (i.inst t)
 | .mapUpdate k a b c => .mapUpdate k (a.inst t) (b.inst t) (c.inst t)
 | .delete k a b => .delete k (a.inst t) (b.inst t)
 | .range x => .range (x.inst t)
 | .next x => .next (x.inst t)
 | .extract x i => .extract (x.inst t) i
 | .call f as => .call f (as.map (LX.inst t))
 | .callv f as => .callv (f.inst t) (as.map (LX.inst t))
 | .append s n m a b => .append s n m (a.inst t) (b.inst t)
 | .grow n m a b => .grow n m (a.inst t) (b.inst t)
 | .len x => .len (x.inst t)
 | .slen x => .slen (x.inst t)
 | .mlen x => .mlen (x.inst t)
 | .const v => .const v
 | .fail => .fail
 | .seq n l x y => .seq n l (x.inst t) (y.inst t)
 | .retire x => .retire (x.inst t)
 | .cap x => .cap (x.inst t)
 | .mx x y => .mx (x.inst t) (y.inst t)
 | .mn x y => .mn (x.inst t) (y.inst t)
theorem Po (t s : List LV) (x : LX) : (x.inst t).ev s = x.ev t := rfl
theorem W2 (t s : List LV) (xs : List LX) : (xs.map (LX.inst t)).map (LX.ev s) = xs.map (LX.ev t) := by rw [List.map_map]; rfl
theorem W3 (t s : List LV) (xs : Option LX) : (xs.map (LX.inst t)).map (LX.ev s) = xs.map (LX.ev t) := by cases xs <;> rfl
theorem Mu (t s : List LV) : ∀ (ps : List (Nat × Nat × LX)), D5 s (ps.map fun p => (p.1, p.2.1, p.2.2.inst t)) = D5 t ps
 | [] => rfl
 | (a, b, x) :: r => by simp only [List.map_cons, D5, Po, Mu t s r]
theorem Q7 (t s : List LV) : ∀ (ps : List (Nat × LX)), G3 s (ps.map fun p => (p.1, p.2.inst t)) = G3 t ps
 | [] => rfl
 | (a, x) :: r => by simp only [List.map_cons, G3, Po, Q7 t s r]
theorem Q8 (call : CallF) (t s : List LV) (st : List LObj) (op : LOp) : Am call s st (op.inst t) = Am call t st op := by
 cases op <;> simp only [LOp.inst, Am, Po, W2, W3, Mu, Q7]
abbrev OpIs (t : List LV) (st : List LObj) (op : LOp) (v : LV) (st' : List LObj) : Prop := Am A2 [] st (op.inst t) = some (v, st')
theorem Oj (c : CallF) : Gj A2 c := fun f a s r h => by simp [A2] at h
theorem OpIs.step {t : List LV} {st st' : List LObj} {op : LOp} {v : LV} (h : OpIs t st op v st') (c : CallF) : Am c t st op = some (v, st') :=
 Hn (Oj c) (by rw [← Q8 A2 t []]; exact h)
def Ts (lp : Bp) (f : FuncId) (args : List LV) (st : List LObj) (r : LV) (st1 : List LObj) : Option (LV × List LObj × Prop) :=
 let args := wk (lp.weak f) args
 let ids := G5 st 100000 (args.flatMap LV.refs) []
 if G6 st ids && (args.flatMap LV.refs).all (ids.contains ·) && decide ids.Nodup then
  if ids.length ≤ st1.length then
   let b := Kb ids st.length
   some (r.ren b, Dl st ids ((st1.take ids.length).map (LObj.ren b)) ++ (st1.drop ids.length).map (LObj.ren b),
    Runs lp f (args.map (LV.ren fun q => ids.idxOf q)) (sub st ids) (r, st1))
  else none
 else none
theorem Lf {lp : Bp} {f : FuncId} {args : List LV} {st st1 st' : List LObj} {r v : LV} {p : Prop} (h : Ts lp f args st r st1 = some (v, st', p)) (hp : p) :
  ∃ n, ∀ m, n ≤ m → C5 (D0 lp m) f args st = some (v, st') := by
 unfold Ts at h
 simp only at h
 split at h
 ·rename_i hc
  split at h
  ·rename_i hl
   cases h
   obtain ⟨n, hn⟩ := Runs.at hp
   refine ⟨n, fun m hm => ?_⟩
   unfold C5
   simp only
   rw [Um, if_pos hc, hn m hm]
   simp only
   rw [if_pos hl]
  ·cases h
 ·cases h
def gdO (t : List LV) (g : Option (Nat × Bool)) (os : Os) : Option (Bool × List Prop × Os) :=
 match g with
 | none => some (true, [], os)
 | some (j, want) => match tick os with
  | (some (.b c), os') => some (c == want, [t.getD j .und = .p (.bool c)], os')
  | (none, os') => match gd t (some (j, want)) with
   | some b => some (b, [], os')
   | none => none
  | _ => none
abbrev Kt (ps : List Prop) : Prop := ∀ p ∈ ps, p
theorem Ok {t : List LV} {g : Option (Nat × Bool)} {os os' : Os} {b : Bool} {ps : List Prop} (h : gdO t g os = some (b, ps, os')) (hp : Kt ps) : gd t g = some b := by
 unfold gdO at h
 split at h
 ·cases h; rfl
 ·split at h
  ·cases h
   have := hp _ (List.mem_singleton.2 rfl)
   simp only [gd, this]
  ·split at h
   ·cases h; assumption
   ·cases h
  ·cases h
def W4 (lp : Bp) (t : List LV) (st : List LObj) (op : LOp) (os : Os) : Option (LV × List LObj × List Prop × Os) :=
 match tick os with
 | (none, os') => match Am A2 t st op with
  | some (v, st') => some (v, st', [], os')
  | none => none
 | (some (.op v st'), os') => some (v, st', [OpIs t st op v st'], os')
 | (some (.call r st1), os') => match op with
  | .call f args => match Ts lp f (args.map (LX.ev t)) st r st1 with
   | some (v, st', p) => some (v, st', [p], os')
   | none => none
  | .callv f args => match f.ev t with
   | .fn (.func g) first captured => match Ts lp g (first ++ args.map (LX.ev t) ++ captured) st r st1 with
    | some (v, st', p) => some (v, st', [p], os')
    | none => none
   | _ => none
  | _ => none
 | (some (.b c), os') => match op with
  | .pick x a b => some (if c then a.ev t else b.ev t, st, [x.ev t = .p (.bool c)], os')
  | _ => none
 | _ => none
theorem Q9 {lp : Bp} {t : List LV} {st st' : List LObj} {op : LOp} {os os' : Os} {v : LV} {ps : List Prop} (h : W4 lp t st op os = some (v, st', ps, os')) (hp : Kt ps) :
  ∃ n, ∀ m, n ≤ m → Am (D0 lp m) t st op = some (v, st') := by
 unfold W4 at h
 split at h
 ·split at h <;> cases h
  exact ⟨0, fun m _ => Hn (Oj _) ‹_›⟩
 ·cases h
  have := hp _ (List.mem_singleton.2 rfl)
  exact ⟨0, fun m _ => OpIs.step this _⟩
 ·split at h
  ·split at h <;> cases h
   exact Lf ‹_› (hp _ (List.mem_singleton.2 rfl))
  ·split at h
   ·rename_i hf
    split at h <;> cases h
    obtain ⟨n, hn⟩ := Lf ‹_› (hp _ (List.mem_singleton.2 rfl))
    exact ⟨n, fun m hm => by simp only [Am, hf]; exact hn m hm⟩
   ·cases h
  ·cases h
 ·split at h
  ·cases h
   have := hp _ (List.mem_singleton.2 rfl)
   exact ⟨0, fun m _ => by simp only [Am, this]⟩
  ·cases h
 ·cases h
def Tt (lp : Bp) (t : List LV) (st : List LObj) (o : C6) (os : Os) : Option (LV × List LObj × List Prop × Os × Bool) :=
 match gdO t o.guard os with
 | some (true, ps, os1) => match W4 lp t st o.op os1 with
  | some (v, st', qs, os2) => some (v, st', ps ++ qs, os2, true)
  | none => none
 | some (false, ps, os1) => some (.tup [], st, ps, os1, false)
 | none => none
theorem Cx {ps qs : List Prop} (h : Kt (ps ++ qs)) : Kt ps ∧ Kt qs := ⟨fun p hp => h p (List.mem_append_left _ hp), fun p hp => h p (List.mem_append_right _ hp)⟩
theorem Ff {lp : Bp} {t : List LV} {st st' : List LObj} {o : C6} {os os' : Os} {v : LV} {ps : List Prop} {d : Bool} (h : Tt lp t st o os = some (v, st', ps, os', d)) (hp : Kt ps) :
  gd t o.guard = some d ∧ ∃ n, ∀ m, n ≤ m → Cm (D0 lp m) t st o = some (v, st') := by
 unfold Tt at h
 split at h
 ·rename_i ps1 os1 hg
  split at h
  ·rename_i v' st1 qs os2 hs
   cases h
   obtain ⟨h1, h2⟩ := Cx hp
   obtain ⟨n, hn⟩ := Q9 hs h2
   have := Ok hg h1
   exact ⟨this, n, fun m hm => by unfold Cm; rw [this]; exact hn m hm⟩
  ·cases h
 ·rename_i ps1 os1 hg
  cases h
  have := Ok hg hp
  exact ⟨this, 0, fun m _ => by unfold Cm; rw [this]⟩
 ·cases h
def W5 (lp : Bp) : List C6 → List LV → List LObj → Os → Option (List LV × List LObj × List Prop × Os)
 | [], t, st, os => some (t, st, [], os)
 | o :: r, t, st, os => match Tt lp t st o os with
  | some (v, st', ps, os', _) => match W5 lp r (G9 t o.dst v) st' os' with
   | some (t', st'', qs, os'') => some (t', st'', ps ++ qs, os'')
   | none => none
  | none => none
theorem Mv {lp : Bp} : ∀ {l : List C6} {t t' : List LV} {st st' : List LObj} {os os' : Os} {ps : List Prop}, W5 lp l t st os = some (t', st', ps, os') → Kt ps →
  ∃ n, ∀ m, n ≤ m → Fo (D0 lp m) l t st = some (t', st')
 | [], t, t', st, st', os, os', ps, h, _ => by simp only [W5] at h; cases h; exact ⟨0, fun m _ => rfl⟩
 | o :: r, t, t', st, st', os, os', ps, h, hp => by
  simp only [W5] at h
  split at h
  ·rename_i v st1 ps1 os1 d hs
   split at h
   ·rename_i t2 st2 qs os2 hr
    cases h
    obtain ⟨h1, h2⟩ := Cx hp
    obtain ⟨_, n, hn⟩ := Ff hs h1
    obtain ⟨k, hk⟩ := Mv hr h2
    exact ⟨max n k, fun m hm => by simp only [Fo, hn m (by omega)]; exact hk m (by omega)⟩
   ·cases h
  ·cases h
def Tu (st : List LObj) (held : List (DOp × List LV × LV)) : List Prop := held.map fun x => OpIs x.2.1 st x.1.op.op x.2.2 st
theorem Ra {lp : Bp} {m : Nat} {st : List LObj} {held : List (DOp × List LV × LV)} (h : Kt (Tu st held)) (hg : ∀ x ∈ held, gd x.2.1 x.1.op.guard = some true) : Fp (D0 lp m) st held = true := by
 unfold Fp
 rw [List.all_eq_true]
 intro x hx
 have := h _ (List.mem_map.2 ⟨x, hx, rfl⟩)
 unfold Cm
 rw [hg x hx]
 simp only [OpIs.step this, LV.eqb_refl]
def I0 (lp : Bp) : List DOp → List (DOp × List LV × LV) → List LV → List LObj → Os → Option (List LV × List LObj × List Prop × Os)
 | [], _, t, st, os => some (t, st, [], os)
 | d :: r, held, t, st, os => match Tt lp t st d.op os with
  | none => none
  | some (v, st', ps, os', done) =>
   match d.cls with
   | .h => if Gt d.op.op v then
     match I0 lp r (if Qj t d.op.op || !done then held else (d, t, v) :: held) (G9 t d.op.dst v) st' os' with
     | some (t', st'', qs, os'') => some (t', st'', ps ++ qs, os'')
     | none => none
    else none
   | .a => if L7 st st' then
     match I0 lp r held (G9 t d.op.dst v) st' os' with
     | some (t', st'', qs, os'') => some (t', st'', ps ++ Tu st' held ++ qs, os'')
     | none => none
    else none
   | .c => if decide (st.length ≤ st'.length) then
     match I0 lp r (held.filter fun x => !d.must.contains x.1.idx) (G9 t d.op.dst v) st' os' with
     | some (t', st'', qs, os'') => some (t', st'', ps ++ Tu st' (held.filter fun x => !d.must.contains x.1.idx) ++ qs, os'')
     | none => none
    else none
abbrev Pp (held heldO : List (DOp × List LV × LV)) : Prop := ∀ x ∈ held, x ∈ heldO ∨ (gd x.2.1 x.1.op.guard = some false ∧ x.2.2 = .tup [])
theorem Mw {lp : Bp} {m : Nat} {st : List LObj} {held heldO : List (DOp × List LV × LV)} (hs : Pp held heldO) (h : Kt (Tu st heldO)) (hg : ∀ x ∈ heldO, gd x.2.1 x.1.op.guard = some true) :
  Fp (D0 lp m) st held = true := by
 unfold Fp
 rw [List.all_eq_true]
 intro x hx
 rcases hs x hx with hx | ⟨h1, h2⟩
 ·have := List.all_eq_true.1 (Ra (lp := lp) (m := m) h hg) x hx
  exact this
 ·unfold Cm
  rw [h1, h2]
  rfl
theorem Em {lp : Bp} : ∀ {l : List DOp} {heldO : List (DOp × List LV × LV)} {t t' : List LV} {st st' : List LObj} {os os' : Os} {ps : List Prop}, I0 lp l heldO t st os = some (t', st', ps, os') → Kt ps →
  (∀ x ∈ heldO, gd x.2.1 x.1.op.guard = some true) → ∃ n, ∀ m, n ≤ m → ∀ held, Pp held heldO → Ch (D0 lp m) l held t st = some (t', st')
 | [], heldO, t, t', st, st', os, os', ps, h, _, _ => by simp only [I0] at h; cases h; exact ⟨0, fun m _ held _ => rfl⟩
 | d :: r, heldO, t, t', st, st', os, os', ps, h, hp, hg => by
  simp only [I0] at h
  split at h
  ·cases h
  ·rename_i v st1 ps1 os1 done hs
   split at h
   ·rename_i hc
    split at h
    ·rename_i hpv
     split at h
     ·rename_i t2 st2 qs os2 hr
      cases h
      obtain ⟨h1, h2⟩ := Cx hp
      obtain ⟨hgd, n, hn⟩ := Ff hs h1
      obtain ⟨k, hk⟩ := Em hr h2 (fun x hx => by
       split at hx
       ·exact hg x hx
       ·rename_i hst
        rcases List.mem_cons.1 hx with rfl | hx
        ·have : done = true := by cases done <;> simp_all
         rw [this] at hgd; exact hgd
        ·exact hg x hx)
      refine ⟨max n k, fun m hm held hsub => ?_⟩
      simp only [Ch, hn m (by omega), hc]
      rw [if_pos hpv]
      refine hk m (by omega) _ (fun x hx => ?_)
      split at hx
      ·rename_i hst
       rw [if_pos (by simp [hst])]
       exact hsub x hx
      ·rename_i hst
       rcases List.mem_cons.1 hx with rfl | hx
       ·cases hdn : done with
        | true => rw [if_neg (by simp [hst])]; exact .inl (by simp)
        | false =>
         rw [hdn] at hgd
         refine .inr ⟨hgd, ?_⟩
         have := hn n (Nat.le_refl _)
         unfold Cm at this
         rw [hgd] at this
         cases this; rfl
       ·rcases hsub x hx with h | h
        ·refine .inl ?_
         split
         ·exact h
         ·exact List.mem_cons_of_mem _ h
        ·exact .inr h
     ·cases h
    ·cases h
   ·rename_i hc
    split at h
    ·rename_i hnew
     split at h
     ·rename_i t2 st2 qs os2 hr
      cases h
      obtain ⟨h12, h3⟩ := Cx hp
      obtain ⟨h1, h2⟩ := Cx h12
      obtain ⟨hgd, n, hn⟩ := Ff hs h1
      obtain ⟨k, hk⟩ := Em hr h3 hg
      refine ⟨max n k, fun m hm held hsub => ?_⟩
      simp only [Ch, hn m (by omega), hc]
      rw [if_pos (by simp only [Bool.and_eq_true]; exact ⟨hnew, Mw hsub h2 hg⟩)]
      exact hk m (by omega) _ hsub
     ·cases h
    ·cases h
   ·rename_i hc
    split at h
    ·rename_i hlen
     split at h
     ·rename_i t2 st2 qs os2 hr
      cases h
      obtain ⟨h12, h3⟩ := Cx hp
      obtain ⟨h1, h2⟩ := Cx h12
      obtain ⟨hgd, n, hn⟩ := Ff hs h1
      have hg' : ∀ x ∈ heldO.filter (fun x => !d.must.contains x.1.idx), gd x.2.1 x.1.op.guard = some true := fun x hx => hg x (List.mem_filter.1 hx).1
      obtain ⟨k, hk⟩ := Em hr h3 hg'
      refine ⟨max n k, fun m hm held hsub => ?_⟩
      have hsub' : Pp (held.filter fun x => !d.must.contains x.1.idx) (heldO.filter fun x => !d.must.contains x.1.idx) := by
       intro x hx
       obtain ⟨a, b⟩ := List.mem_filter.1 hx
       rcases hsub x a with h | h
       ·exact .inl (List.mem_filter.2 ⟨h, b⟩)
       ·exact .inr h
      simp only [Ch, hn m (by omega), hc]
      rw [if_pos (by simp only [Bool.and_eq_true]; exact ⟨hlen, Mw hsub' h2 hg'⟩)]
      exact hk m (by omega) _ hsub'
     ·cases h
    ·cases h
def LoopAt (lp : Bp) (k : Nat) (mask : List Bool) (c : Bm) (t : List LV) (st : List LObj) (r : C1 × List LV × List LObj) : Prop :=
 ∃ n, (match A8 (D0 lp n) k n c t st with
  | some (.normal, t', st') => A8 (D0 lp n) k n (.loop mask c) t' st'
  | r => r) = some r
def Cy (lp : Bp) (k : Nat) : Nat → Bm → List LV → List LObj → Os → Option (C1 × List LV × List LObj × List Prop × Os)
 | 0, _, _, _, _ => none
 | n + 1, c, t, st, os => match c with
  | .skip => some (.normal, t, st, [], os)
  | .region ops => match W5 lp ops t st os with
   | some (t', st', ps, os') => some (.normal, t', st', ps, os')
   | none => none
  | .drawn ops => match I0 lp ops [] t st os with
   | some (t', st', ps, os') => some (.normal, t', st', ps, os')
   | none => none
  | .seq a b => match Cy lp k n a t st os with
   | some (.normal, t', st', ps, os') => (match Cy lp k n b t' st' os' with
    | some (o, t'', st'', qs, os'') => some (o, t'', st'', ps ++ qs, os'')
    | none => none)
   | r => r
  | .cond x a b => match tick os with
   | (some (.b c), os') => (match Cy lp k n (if c then a else b) t st os' with
    | some (o, t', st', ps, os'') => some (o, t', st', (x.ev t = .p (.bool c)) :: ps, os'')
    | none => none)
   | (none, os') => (match x.ev t with
    | .p (.bool true) => Cy lp k n a t st os'
    | .p (.bool false) => Cy lp k n b t st os'
    | _ => none)
   | _ => none
  | .Dt x a b c => Cy lp k n (.seq (.cond x a b) c) t st os
  | .block id mask c => match Cy lp k n c t st os with
   | some (.exit i, t', st', ps, os') => if i = id then some (.normal, kill mask t', st', ps, os') else some (.exit i, t', st', ps, os')
   | some (.normal, t', st', ps, os') => some (.normal, kill mask t', st', ps, os')
   | r => r
  | .loop mask c => match tick os with
   | (some (.lp out t' st'), os') => (match gc k (kill mask t) st with
    | some (t0, st0) => some (out, t', st', [LoopAt lp k mask c t0 st0 (out, t', st')], os')
    | none => none)
   | _ => none
  | .exit id mask => some (.exit id, kill mask t, st, [], os)
  | .ret mask => some (.ret, kill mask t, st, [], os)
  | .fail => none
theorem Uv {c : CallF} {k m : Nat} {x : LX} {a b d : Bm} {t : List LV} {st : List LObj} {r : C1 × List LV × List LObj} (h : A8 c k m (.seq (.cond x a b) d) t st = some r) : A8 c k (m + 1) (.Dt x a b d) t st = some r := by
 cases m with
 | zero => simp [A8] at h
 | succ m =>
  cases m with
  | zero => simp [A8, C7] at h
  | succ m =>
   show (match x.ev t with
    | .p (.bool true) => C7 (A8 c k (m + 1 + 1) a t st) (A8 c k (m + 1 + 1) d)
    | .p (.bool false) => C7 (A8 c k (m + 1 + 1) b t st) (A8 c k (m + 1 + 1) d)
    | .anyb => Dt (C7 (A8 c k (m + 1 + 1) a t st) (A8 c k (m + 1 + 1) d)) (C7 (A8 c k (m + 1 + 1) b t st) (A8 c k (m + 1 + 1) d))
    | _ => none) = some r
   replace h : C7 (match x.ev t with
    | .p (.bool true) => A8 c k m a t st
    | .p (.bool false) => A8 c k m b t st
    | .anyb => Dt (A8 c k m a t st) (A8 c k m b t st)
    | _ => none) (A8 c k (m + 1) d) = some r := h
   have up : ∀ {lz : Bm} {y}, A8 c k m lz t st = some y → C7 (some y) (A8 c k (m + 1) d) = some r → C7 (A8 c k (m + 1 + 1) lz t st) (A8 c k (m + 1 + 1) d) = some r := by
    intro lz y h1 h2
    rw [Bd (fun _ _ _ _ h => ⟨h, rfl⟩) (show m ≤ m + 1 + 1 by omega) h1]
    obtain ⟨o, t', st'⟩ := y
    cases o with
    | normal => exact Bd (fun _ _ _ _ h => ⟨h, rfl⟩) (show m + 1 ≤ m + 1 + 1 by omega) h2
    | _ => exact h2
   split at h
   ·rename_i hx
    cases he : A8 c k m a t st with
    | none => rw [he] at h; cases h
    | some y => rw [he] at h; (try simp only [hx]); exact up he h
   ·rename_i hx
    cases he : A8 c k m b t st with
    | none => rw [he] at h; cases h
    | some y => rw [he] at h; (try simp only [hx]); exact up he h
   ·rename_i hx
    cases hb : Dt (A8 c k m a t st) (A8 c k m b t st) with
    | none => rw [hb] at h; cases h
    | some y =>
     rw [hb] at h
     obtain ⟨e1, e2⟩ := I9 hb
     try simp only [hx]
     rw [up e1 h, up e2 h]
     exact Ks r
   ·cases h
theorem Ce {lp : Bp} {k : Nat} : ∀ {n : Nat} {c : Bm} {t t' : List LV} {st st' : List LObj} {os os' : Os} {ps : List Prop} {o : C1}, Cy lp k n c t st os = some (o, t', st', ps, os') → Kt ps →
  Exec lp k c t st (o, t', st')
 | 0, c, t, t', st, st', os, os', ps, o, h, _ => by simp [Cy] at h
 | n + 1, c, t, t', st, st', os, os', ps, o, h, hp => by
  cases c with
  | skip => simp only [Cy] at h; cases h; exact ⟨1, rfl⟩
  | exit id mask => simp only [Cy] at h; cases h; exact ⟨1, rfl⟩
  | ret mask => simp only [Cy] at h; cases h; exact ⟨1, rfl⟩
  | fail => simp [Cy] at h
  | region ops =>
   simp only [Cy] at h
   split at h
   ·rename_i t1 st1 ps1 os1 hs
    cases h
    obtain ⟨m, hm⟩ := Mv hs hp
    exact ⟨m + 1, by simp only [A8]; rw [hm (m + 1) (by omega)]⟩
   ·cases h
  | drawn ops =>
   simp only [Cy] at h
   split at h
   ·rename_i t1 st1 ps1 os1 hs
    cases h
    obtain ⟨m, hm⟩ := Em hs hp (by simp)
    exact ⟨m + 1, by simp only [A8]; rw [hm (m + 1) (by omega) [] (by simp)]⟩
   ·cases h
  | seq a b =>
   simp only [Cy] at h
   split at h
   ·rename_i t1 st1 ps1 os1 hs
    split at h
    ·rename_i o2 t2 st2 ps2 os2 hs2
     cases h
     obtain ⟨h1, h2⟩ := Cx hp
     obtain ⟨m1, e1⟩ := (Ce hs h1).at
     obtain ⟨m2, e2⟩ := (Ce hs2 h2).at
     refine ⟨max m1 m2 + 1, ?_⟩
     simp only [A8, C7]
     rw [Bd (Ca (by omega)) (Nat.le_refl _) (e1 (max m1 m2) (by omega))]
     exact Bd (Ca (by omega)) (Nat.le_refl _) (e2 (max m1 m2) (by omega))
    ·cases h
   ·rename_i r hne
    cases ha : Cy lp k n a t st os with
    | none => rw [ha] at h; cases h
    | some x =>
     obtain ⟨o1, t1, st1, ps1, os1⟩ := x
     rw [ha] at h
     cases h
     obtain ⟨m, e⟩ := (Ce ha hp).at
     refine ⟨m + 1, ?_⟩
     simp only [A8, C7]
     rw [Bd (Ca (by omega)) (Nat.le_refl _) (e m (Nat.le_refl _))]
     cases o with
     | normal => exact absurd ha (hne _ _ _ _)
     | _ => rfl
  | cond x a b =>
   simp only [Cy] at h
   split at h
   ·rename_i c os1 _
    split at h
    ·rename_i o1 t1 st1 ps1 os2 hs
     cases h
     have hx := hp _ (List.mem_cons_self ..)
     obtain ⟨m, e⟩ := (Ce hs (fun p hm => hp p (List.mem_cons_of_mem _ hm))).at
     refine ⟨m + 1, ?_⟩
     simp only [A8, hx]
     have := Bd (Ca (lp := lp) (show m ≤ m + 1 by omega)) (Nat.le_refl _) (e m (Nat.le_refl _))
     cases c <;> exact this
    ·cases h
   ·split at h
    ·rename_i hx
     obtain ⟨m, e⟩ := (Ce h hp).at
     refine ⟨m + 1, ?_⟩
     simp only [A8, hx]
     exact Bd (Ca (by omega)) (Nat.le_refl _) (e m (Nat.le_refl _))
    ·rename_i hx
     obtain ⟨m, e⟩ := (Ce h hp).at
     refine ⟨m + 1, ?_⟩
     simp only [A8, hx]
     exact Bd (Ca (by omega)) (Nat.le_refl _) (e m (Nat.le_refl _))
    ·cases h
   ·cases h
  | Dt x a b d =>
   simp only [Cy] at h
   obtain ⟨m, e⟩ := (Ce h hp).at
   exact ⟨m + 1, Bd (Ca (by omega)) (Nat.le_refl _) (Uv (e m (Nat.le_refl _)))⟩
  | block id mask a =>
   simp only [Cy] at h
   have go : ∀ {o1 t1 st1 ps1 os1}, Cy lp k n a t st os = some (o1, t1, st1, ps1, os1) → Kt ps1 → ∃ m, A8 (D0 lp (m + 1)) k m a t st = some (o1, t1, st1) := by
    intro o1 t1 st1 ps1 os1 hs hp1
    obtain ⟨m, e⟩ := (Ce hs hp1).at
    exact ⟨m, Bd (Ca (by omega)) (Nat.le_refl _) (e m (Nat.le_refl _))⟩
   split at h
   ·rename_i i t1 st1 ps1 os1 hs
    split at h
    ·rename_i hi
     cases h
     obtain ⟨m, e⟩ := go hs hp
     exact ⟨m + 1, by simp only [A8, e]; rw [if_pos hi]⟩
    ·rename_i hi
     cases h
     obtain ⟨m, e⟩ := go hs hp
     exact ⟨m + 1, by simp only [A8, e]; rw [if_neg hi]⟩
   ·rename_i t1 st1 ps1 os1 hs
    cases h
    obtain ⟨m, e⟩ := go hs hp
    exact ⟨m + 1, by simp only [A8, e]⟩
   ·rename_i r hne1 hne2
    cases ha : Cy lp k n a t st os with
    | none => rw [ha] at h; cases h
    | some x =>
     obtain ⟨o1, t1, st1, ps1, os1⟩ := x
     rw [ha] at h
     cases h
     obtain ⟨m, e⟩ := go ha hp
     refine ⟨m + 1, ?_⟩
     simp only [A8, e]
     cases o with
     | normal => exact absurd ha (hne2 _ _ _ _)
     | exit i => exact absurd ha (hne1 _ _ _ _ _)
     | ret => rfl
  | loop mask a =>
   simp only [Cy] at h
   split at h
   ·rename_i out t1 st1 os1 _
    split at h
    ·rename_i t0 st0 hg
     cases h
     obtain ⟨m, hm⟩ := hp _ (List.mem_singleton.2 rfl)
     refine ⟨m + 1, ?_⟩
     simp only [A8, hg]
     cases he : A8 (D0 lp m) k m a t0 st0 with
     | none => rw [he] at hm; cases hm
     | some x =>
      obtain ⟨o2, t2, st2⟩ := x
      rw [he] at hm
      rw [Bd (Ca (show m ≤ m + 1 by omega)) (Nat.le_refl _) he]
      cases o2 with
      | normal => exact Bd (Ca (by omega)) (Nat.le_refl _) hm
      | _ => exact hm
    ·cases h
   ·cases h
end Go.LS
set_option linter.unusedVariables false
set_option linter.unusedSimpArgs false
namespace Go.LS
def Conj : List Prop → Prop
 | [] => True
 | p :: r => p ∧ Conj r
theorem Conj.all : ∀ {ps : List Prop}, Conj ps → Kt ps
 | [], _, p, hp => by cases hp
 | q :: r, h, p, hp => by
  rcases List.mem_cons.1 hp with rfl | hp
  ·exact h.1
  ·exact h.2.all p hp
def runO (lp : Bp) (N : Nat) (f : FuncId) (args : List LV) (st : List LObj) (os : Os) : Option (LV × List LObj × List Prop) :=
 match lp.summ f with
 | some _ => none
 | none => match lp.fns f with
  | none => none
  | some lf => match Cy lp st.length N lf.body (wk (lp.weak f) args ++ List.replicate (lf.ntmps - args.length) .und) st os with
   | some (.exit _, _, _, _, _) => none
   | some (_, t', st', ps, _) => match K7 t' st' lf.results with
    | some vs => match gc st.length (wk (lp.wres f) vs) st' with
     | some (vs', st'') => some (Is vs', st'', ps)
     | none => none
    | none => none
   | none => none
theorem C9 {lp : Bp} {N : Nat} {f : FuncId} {args : List LV} {st st' : List LObj} {os : Os} {v : LV} {ps : List Prop} (h : runO lp N f args st os = some (v, st', ps)) (hp : Conj ps) : Runs lp f args st (v, st') := by
 unfold runO at h
 split at h
 ·cases h
 ·rename_i hsm
  split at h
  ·cases h
  ·rename_i lf hlf
   split at h
   ·cases h
   ·rename_i out t1 st1 ps1 os1 hne hex
    split at h
    ·rename_i vs hvs
     split at h
     ·rename_i vs' st2 hgc
      simp only [Option.some.injEq, Prod.mk.injEq] at h
      obtain ⟨rfl, rfl, rfl⟩ := h
      obtain ⟨n, hn⟩ := Ce hex hp.all
      refine ⟨n + 1, ?_⟩
      simp only [D0, hsm, hlf, hn]
      cases out with
      | exit i => exact (hne i rfl).elim
      | normal => simp only [hvs, hgc]
      | ret => simp only [hvs, hgc]
     ·cases h
    ·cases h
   ·cases h
def Ku (lp : Bp) (N k : Nat) (mask : List Bool) (c : Bm) (t : List LV) (st : List LObj) (os : Os) : Option (C1 × List LV × List LObj × List Prop) :=
 match Cy lp k N c t st os with
 | some (.normal, t', st', ps, _) => match gc k (kill mask t') st' with
  | some (t'', st'') => some (.normal, t'', st'', ps)
  | none => none
 | some (o, t', st', ps, _) => some (o, t', st', ps)
 | none => none
theorem LoopAt.on {lp : Bp} {N k : Nat} {mask : List Bool} {c : Bm} {t t' : List LV} {st st' : List LObj} {os : Os} {ps : List Prop} {r : C1 × List LV × List LObj}
  (h : Ku lp N k mask c t st os = some (.normal, t', st', ps)) (hp : Conj ps) (hr : LoopAt lp k mask c t' st' r) : LoopAt lp k mask c t st r := by
 unfold Ku at h
 split at h
 ·rename_i t1 st1 ps1 os1 hex
  split at h
  ·rename_i t2 st2 hg
   simp only [Option.some.injEq, Prod.mk.injEq, true_and] at h
   obtain ⟨rfl, rfl, rfl⟩ := h
   obtain ⟨n, hn⟩ := (Ce hex hp.all).at
   obtain ⟨m, hm⟩ := hr
   refine ⟨max n m + 1, ?_⟩
   rw [hn (max n m + 1) (by omega)]
   simp only [A8, hg]
   cases he : A8 (D0 lp m) k m c t2 st2 with
   | none => rw [he] at hm; cases hm
   | some x =>
    obtain ⟨o2, t3, st3⟩ := x
    rw [he] at hm
    rw [Bd (Ca (show m ≤ max n m + 1 by omega)) (show m ≤ max n m by omega) he]
    cases o2 with
    | normal => exact Bd (Ca (by omega)) (by omega) hm
    | _ => exact hm
  ·cases h
 ·rename_i hne hex
  simp only [Option.some.injEq, Prod.mk.injEq] at h
  obtain ⟨rfl, rfl, rfl, rfl⟩ := h
  exact (hne rfl).elim
 ·cases h
theorem LoopAt.out {lp : Bp} {N k : Nat} {mask : List Bool} {c : Bm} {t t' : List LV} {st st' : List LObj} {os : Os} {ps : List Prop} {o : C1}
  (h : Ku lp N k mask c t st os = some (o, t', st', ps)) (ho : (match o with | .normal => false | _ => true) = true) (hp : Conj ps) : LoopAt lp k mask c t st (o, t', st') := by
 unfold Ku at h
 split at h
 ·split at h
  ·cases h; cases ho
  ·cases h
 ·rename_i o1 t1 st1 ps1 os1 hne hex
  simp only [Option.some.injEq, Prod.mk.injEq] at h
  obtain ⟨rfl, rfl, rfl, rfl⟩ := h
  obtain ⟨n, hn⟩ := Ce hex hp.all
  refine ⟨n, ?_⟩
  rw [hn]
  cases o1 with
  | normal => cases ho
  | _ => rfl
 ·cases h
def D9 : Bm → List (List Bool × Bm)
 | .seq a b => D9 a ++ D9 b
 | .cond _ a b => D9 a ++ D9 b
 | .Dt _ a b c => D9 a ++ D9 b ++ D9 c
 | .block _ _ c => D9 c
 | .loop m c => (m, c) :: D9 c
 | _ => []
def Ab (lf : LFn) (i : Nat) : List Bool × Bm := (D9 lf.body).getD i ([], .skip)
def tl (i : Nat) : Nat → List (Nat × LV) → List LV
 | 0, _ => []
 | n + 1, [] => .und :: tl (i + 1) n []
 | n + 1, (j, v) :: r => match Nat.beq i j with
  | true => v :: tl (i + 1) n r
  | false => .und :: tl (i + 1) n ((j, v) :: r)
abbrev OpW (st : List LObj) (op : LOp) (v : LV) (st' : List LObj) : Prop := Am A2 [] st op = some (v, st')
abbrev LoopN (lp : Bp) (k : Nat) (x : List Bool × Bm) (t : List LV) (st : List LObj) (r : C1 × List LV × List LObj) : Prop := LoopAt lp k x.1 x.2 t st r
def oO {st st' : List LObj} {op : LOp} {v : LV} (_ : OpW st op v st') : Orc := .op v st'
def oC {lp : Bp} {f : Nat} {as : List LV} {st st' : List LObj} {v : LV} (_ : Runs lp f as st (v, st')) : Orc := .call v st'
def oL {lp : Bp} {k : Nat} {x : List Bool × Bm} {t t' : List LV} {st st' : List LObj} {o : C1} (_ : LoopN lp k x t st (o, t', st')) : Orc := .lp o t' st'
theorem cI {b c : Bool} (h : b = c) : LV.p (PV.bool b) = .p (.bool c) := congrArg (fun b => LV.p (PV.bool b)) h
theorem Sk {lp : Bp} {f : FuncId} {a : List LV} {s : List LObj} {c : Bool} {x y : LV × List LObj} (h : Runs lp f a s (if c = true then x else y)) (hc : c = true) : Runs lp f a s x := by rwa [if_pos hc] at h
theorem iteF {lp : Bp} {f : FuncId} {a : List LV} {s : List LObj} {c : Bool} {x y : LV × List LObj} (h : Runs lp f a s (if c = true then x else y)) (hc : c = false) : Runs lp f a s y := by rwa [if_neg (by simp [hc])] at h
theorem Ad {b c : Bool} (h : b = c) : (!b) = !c := by rw [h]
end Go.LS
set_option linter.unusedVariables false
set_option linter.unusedSimpArgs false
namespace Go.LS
theorem W6 (b : UInt8) : unb [.int .u8 b.toNat] = some b := by simp [unb]
theorem Lz : ∀ (L : List UInt8), Nq (bs L) = some L
 | [] => rfl
 | b :: r => by
  have := Lz r
  simp only [bs] at this
  simp [bs, Nq, W6, this]
theorem Dw {v : LV} {L : List UInt8} {st : List LObj} (h : v.asSl = some (bs L)) : Am A2 [] st (.cv .b2s (.const v)) = some (.p (.str L), st) := by
 have : lcv .b2s v = some (.str L) := by
  cases v <;> simp only [LV.asSl] at h <;> first | (cases h; done) | skip
  case p v =>
   cases v <;> simp only [LV.asSl] at h <;> first | (cases h; done) | skip
   cases h; simp [lcv, LV.asSl, Lz]
  case sl es t f => cases h; simp [lcv, LV.asSl, Lz]
  case tight es => cases h; simp [lcv, LV.asSl, Lz]
 simp [Am, LX.ev, this]
theorem Cl (L : List UInt8) : (bs L).length = L.length := by simp [bs]
theorem Ol (L M : List UInt8) : bs (L ++ M) = bs L ++ bs M := by simp [bs]
theorem Rb (L : List UInt8) : Gs 1 (bs L) = true := by simp [Gs, bs]
theorem Rc (M : List UInt8) : (bs M).isEmpty = M.isEmpty := by cases M <;> rfl
theorem Tv {e : Int} (h0 : 0 ≤ e) (h1 : e ≤ 255) : [[PV.int .u8 e]] = bs [UInt8.ofNat e.toNat] := by
 simp [bs]
 omega
theorem Ax {str : Bool} {L M : List UInt8} {es : List (List PV)} {t : Nat} {st : List LObj} {x : LV} (hs : st[t]? = some (.spare 1 L.length)) (hx : Eb str st x = some es) (he : es = bs M)
  (hl : L.length + M.length ≤ 200000000000000) : Am A2 [] st (.append str 1 1 (.const (.sl (bs L) t L.length)) (.const x)) = some (.sl (bs (L ++ M)) t (L ++ M).length, st.set t (.spare 1 (L ++ M).length)) := by
 subst he
 refine L5 ?_
 simp only [LX.ev, Fc, hx, Rb, hs, Rc, Cl]
 by_cases hM : M.isEmpty = true
 ·have : M = [] := by simpa using hM
  subst this
  simp
  obtain ⟨h1, h2⟩ := List.getElem?_eq_some_iff.1 hs
  conv => rhs; rw [← h2]
  simp
 ·simp only [hM]
  simp [Ol, maxLen, V0 hl]
  omega
theorem Cb {str : Bool} {L M : List UInt8} {es es0 : List (List PV)} {st : List LObj} {x : LV} (he0 : es0 = bs L) (hx : Eb str st x = some es) (he : es = bs M) (hM : M ≠ [])
  (hl : L.length + M.length ≤ 200000000000000) : Am A2 [] st (.append str 1 1 (.const (.tight es0)) (.const x)) = some (.sl (bs (L ++ M)) st.length (L ++ M).length, st ++ [.spare 1 (L ++ M).length]) := by
 subst he he0
 have : M.isEmpty = false := by cases M <;> simp_all
 refine L5 ?_
 simp only [LX.ev, Fc, hx, Rb, Rc, Cl, this]
 simp [Ol, maxLen, V0 hl]
 omega
def Ae (u : Nat) : List UInt8 := if u < 128 then [UInt8.ofNat u] else UInt8.ofNat (u % 128 + 128) :: Ae (u / 128)
termination_by u
decreasing_by omega
theorem vcode_len : ∀ (u : Nat), u < 2 ^ 64 → (Ae u).length ≤ 10 := by
 have key : ∀ k u, u < 128 ^ (k + 1) → (Ae u).length ≤ k + 1 := by
  intro k
  induction k with
  | zero => intro u hu; rw [Ae]; simp at hu; simp [hu]
  | succ k ih =>
   intro u hu
   rw [Ae]
   split
   ·simp
   ·simp only [List.length_cons]
    have := ih (u / 128) (by rw [Nat.div_lt_iff_lt_mul (by omega)]; rw [Nat.pow_succ] at hu; exact hu)
    omega
 intro u hu
 exact key 9 u (Nat.lt_of_lt_of_le hu (by decide))
end Go.LS
namespace Go.LS
theorem In (n : Int) : 0 ≤ IntKind.wrap .u8 n ∧ IntKind.wrap .u8 n ≤ 255 := by
 simp only [IntKind.wrap, IntKind.bits, IntKind.signed]
 simp
 omega
theorem A7 (n : Int) : [[PV.int .u8 (IntKind.wrap .u8 n)]] = bs [UInt8.ofNat (IntKind.wrap .u8 n).toNat] := Tv (In n).1 (In n).2
end Go.LS
namespace Go.LS
theorem W7 {s : List UInt8} {st : List LObj} (h : s.length ≤ 140737488355328) : Am A2 [] st (.cv .s2b (.const (.p (.str s)))) = some (.p (.sl (bs s)), st) := by
 simp [Am, LX.ev, lcv, h]
theorem C0 {n : Nat} (h : n < 2 ^ 64) : IntKind.wrap .u64 (n : Int) = (n : Int) := by
 simp only [IntKind.wrap, IntKind.bits, IntKind.signed]
 simp
 omega
theorem Mx (n : Int) : IntKind.wrap .u64 n = n % 18446744073709551616 := by
 simp only [IntKind.wrap, IntKind.bits, IntKind.signed]
 simp
theorem A9 {n : Int} (h0 : -9223372036854775808 ≤ n) (h1 : n ≤ 9223372036854775807) : IntKind.wrap .i64 n = n := by
 simp only [IntKind.wrap, IntKind.bits, IntKind.signed]
 simp
 omega
end Go.LS
namespace Go.LS
theorem W8 (L : List UInt8) (n : Nat) (h : n = 1) : ((bs L).all fun e => e.length == n) = true := by subst h; simp [bs]
theorem bs_take (L : List UInt8) (k : Nat) : bs (L.take k) = (bs L).take k := by simp [bs, List.map_take]
theorem Tw (L : List UInt8) (k : Nat) : bs (L.drop k) = (bs L).drop k := by simp [bs, List.map_drop]
theorem Fx (u : Nat) : 0 < (Ae u).length := by rw [Ae]; split <;> simp
theorem W9 {u : Nat} (h : u < 128) : Ae u = [UInt8.ofNat u] := by rw [Ae, if_pos h]
theorem Xa {u : Nat} (h : ¬ u < 128) : Ae u = UInt8.ofNat (u % 128 + 128) :: Ae (u / 128) := by rw [Ae, if_neg h]
end Go.LS
namespace Go.LS
theorem Xb {v : LV} {L : List UInt8} {i : Nat} {c : UInt8} {st : List LObj} (hv : v.asSl = some (bs L)) (hr : v.isRs = false) (h : L[i]? = some c) :
  Am A2 [] st (.indexAddr 1 (.const v) (.const (.p (.int .i64 ((i : Nat) : Int))))) = some (.pin [.int .u8 c.toNat] 0, st) := by
 have hb : (bs L)[i]? = some [.int .u8 c.toNat] := by simp [bs, h]
 have h0 : ¬ ((i : Int) < 0) := by omega
 cases v <;> simp only [LV.isRs, Bool.true_eq_false] at hr <;> simp only [LV.asSl] at hv <;> first | (cases hv; done) | skip
 all_goals simp [Am, LX.ev, LV.asInt, LV.asSl, hv, hb, h0]
end Go.LS
namespace Go.LS
theorem Df {v : LV} {L : List UInt8} {i : Nat} {st : List LObj} (hv : v.asSl = some (bs L)) (hr : v.isRs = false) (h : i < L.length) :
  Am A2 [] st (.indexAddr 1 (.const v) (.const (.p (.int .i64 ((i : Nat) : Int))))) = some (.pin [.int .u8 ((L.getD i 0).toNat : Int)] 0, st) := by
 rw [Xb hv hr (c := L.getD i 0) (by simp [List.getD, h])]
theorem En {M : List UInt8} {k : IntKind} {lo : Int} {st : List LObj} (h0 : 0 ≤ lo) (h : lo ≤ (M.length : Int)) :
  Am A2 [] st (.slice 1 (.const (.p (.sl (bs M)))) (some (.const (.p (.int k lo)))) none none) = some (.p (.sl (bs (M.drop lo.toNat))), st) := by
 have e : (bs M).take (bs M).length = bs M := List.take_length
 have e2 : (bs M).take M.length = bs M := by rw [← Cl M]; exact e
 simp [Am, LX.ev, Fm, LV.asSl, W8, Fl, bnd, Cl, h0, h, Tw, e2]
theorem Pq {M : List UInt8} {k j : IntKind} {lo hi : Int} {st : List LObj} (h0 : 0 ≤ lo) (h1 : lo ≤ hi) (h : hi ≤ (M.length : Int)) :
  Am A2 [] st (.slice 1 (.const (.p (.sl (bs M)))) (some (.const (.p (.int k lo)))) (some (.const (.p (.int j hi)))) none) = some (.p (.sl (bs ((M.take hi.toNat).drop lo.toNat))), st) := by
 have hh : 0 ≤ hi := by omega
 have hl : lo ≤ ((hi.toNat : Nat) : Int) := by omega
 have hl2 : lo ≤ max hi 0 := by omega
 simp [Am, LX.ev, Fm, LV.asSl, W8, Fl, bnd, Cl, h0, hh, hl, hl2, h, bs_take, Tw]
 split
 ·rename_i v hv
  split at hv
  ·rename_i h1
   cases hv
   rw [h1.1, ← Cl M, List.take_length]
  ·cases hv; rfl
 ·rename_i hv; split at hv <;> cases hv
theorem My {M : List UInt8} {k : IntKind} {hi : Int} {st : List LObj} (h0 : 0 ≤ hi) (h : hi ≤ (M.length : Int)) :
  Am A2 [] st (.sslice (.const (.p (.str M))) none (some (.const (.p (.int k hi)))) none) = some (.p (.str (M.take hi.toNat)), st) := by
 simp [Am, LX.ev, Fl, bnd, h0, h]
theorem Ho {k j : IntKind} {a b : Int} {st : List LObj} (h : 0 ≤ b) :
  Am A2 [] st (.bin .shl (.const (.p (.int k a))) (.const (.p (.int j b)))) = some (.p (.int k (IntKind.wrap k (a * 2 ^ min (Int.toNat b) k.bits))), st) := by
 have h0 : ¬ b < 0 := by omega
 simp [Am, LX.ev, Vz, h0]
theorem Ak {lp : Bp} {f : FuncId} {args : List LV} {st : List LObj} {c : Prop} [Decidable c] {a b : LV × List LObj} (k : c) (h : Runs lp f args st a) : Runs lp f args st (if c then a else b) := by rwa [if_pos k]
theorem Al {lp : Bp} {f : FuncId} {args : List LV} {st : List LObj} {c : Prop} [Decidable c] {a b : LV × List LObj} (k : ¬ c) (h : Runs lp f args st b) : Runs lp f args st (if c then a else b) := by rwa [if_neg k]
theorem Aj {v : LV} {E : List (List PV)} {e : List PV} {z : Nat} {i : Nat} {st : List LObj} (hv : v.asSl = some E) (hr : v.isRs = false) (h : E[i]? = some e) (hz : e.length = z) :
  Am A2 [] st (.indexAddr z (.const v) (.const (.p (.int .i64 ((i : Nat) : Int))))) = some (.pin e 0, st) := by
 have h0 : ¬ ((i : Int) < 0) := by omega
 cases v <;> simp only [LV.isRs, Bool.true_eq_false] at hr <;> simp only [LV.asSl] at hv <;> first | (cases hv; done) | skip
 all_goals simp [Am, LX.ev, LV.asInt, LV.asSl, hv, h, h0, hz]
end Go.LS
set_option linter.unusedVariables false
set_option linter.unusedSimpArgs false
namespace Go.LS
inductive Cty where
 | bool
 | int (k : IntKind)
 | str
 | sl (ts : List Cty) (bytes : Nat)
 | pr (Q : List PV → Prop) (bytes : Nat)
mutual
def Ux : Cty → PV → Prop
 | .bool, p => ∃ b, p = .bool b
 | .int k, p => ∃ n, p = .int k n ∧ k.min ≤ n ∧ n ≤ k.max
 | .str, p => ∃ s, p = .str s ∧ s.length ≤ reachBytes
 | .sl ts bytes, p => ∃ es : List (List PV), p = .sl es ∧ es.length * bytes ≤ reachBytes ∧ es.length ≤ maxLen ∧ ∀ e ∈ es, Bn ts e
 | .pr Q bytes, p => ∃ es : List (List PV), p = .sl es ∧ es.length * bytes ≤ reachBytes ∧ es.length ≤ maxLen ∧ ∀ e ∈ es, Q e
def Bn : List Cty → List PV → Prop
 | [], ps => ps = []
 | t :: ts, ps => ∃ p r, ps = p :: r ∧ Ux t p ∧ Bn ts r
end
def Lu (P : Program) (rc : TypeId → Option (List Cty)) : Nat → List Field → Option (List Cty)
 | _, [] => some []
 | off, f :: r => match rc f.type with
  | some ts => if f.offset = off ∧ ts.length = P.cellsOf f.type then
    match Lu P rc (off + ts.length) r with
    | some l => some (ts ++ l)
    | none => none
   else none
  | none => none
def tyT (P : Program) (cut : List TypeId) (Q : TypeId → List PV → Prop) : Nat → TypeId → Option (List Cty)
 | 0, _ => none
 | n + 1, t => match P.underlying t with
  | some .bool => some [.bool]
  | some (.int k) => some [.int k]
  | some .string => some [.str]
  | some (.slice e) => if e ∈ cut then some [.pr (Q e) (P.bytesOf e)] else match tyT P cut Q n e with
   | some ts => if ts.length = P.cellsOf e ∧ 0 < ts.length then some [.sl ts (P.bytesOf e)] else none
   | none => none
  | some (.struct fs) => match Lu P (tyT P cut Q n) 0 fs.toList with
   | some ts => if ts.length = P.cellsOf t then some ts else none
   | none => none
  | some (.array m e) => match tyT P cut Q n e with
   | some ts => if m * ts.length = P.cellsOf t ∧ ts.length = P.cellsOf e then some (List.replicate m ts).flatten else none
   | none => none
  | _ => none
def RecOk (P : Program) (cut : List TypeId) (N : Nat) : Nat → TypeId → List PV → Prop
 | 0, _, _ => False
 | k + 1, t, ps => ∃ ts, tyT P cut (RecOk P cut N k) N t = some ts ∧ Bn ts ps
def Xj (Q R : TypeId → List PV → Prop) : Prop := ∀ e x, Q e x → R e x
def Cle (ts us : List Cty) : Prop := us.length = ts.length ∧ ∀ ps, Bn ts ps → Bn us ps
theorem Cle.append {a b c d : List Cty} (h : Cle a b) (k : Cle c d) : Cle (a ++ c) (b ++ d) := by
 refine ⟨by simp [h.1, k.1], ?_⟩
 have : ∀ (a b : List Cty), b.length = a.length → (∀ ps, Bn a ps → Bn b ps) → ∀ ps, Bn (a ++ c) ps → Bn (b ++ d) ps := by
  intro a b hl hab ps hp
  obtain ⟨p1, p2, rfl, h1, h2⟩ := split a c ps hp
  exact join b d p1 p2 (hab _ h1) (k.2 _ h2)
 exact this a b h.1 h.2
where
 split : ∀ (a c : List Cty) (ps : List PV), Bn (a ++ c) ps → ∃ p1 p2, ps = p1 ++ p2 ∧ Bn a p1 ∧ Bn c p2
  | [], c, ps, h => ⟨[], ps, rfl, by simp [Bn], h⟩
  | t :: a, c, ps, h => by
   simp only [List.cons_append, Bn] at h
   obtain ⟨p, r, rfl, h1, h2⟩ := h
   obtain ⟨p1, p2, rfl, h3, h4⟩ := split a c r h2
   exact ⟨p :: p1, p2, rfl, by simp only [Bn]; exact ⟨p, p1, rfl, h1, h3⟩, h4⟩
 join : ∀ (a c : List Cty) (p1 p2 : List PV), Bn a p1 → Bn c p2 → Bn (a ++ c) (p1 ++ p2)
  | [], c, p1, p2, h, k => by simp only [Bn] at h; subst h; exact k
  | t :: a, c, p1, p2, h, k => by
   simp only [Bn] at h
   obtain ⟨p, r, rfl, h1, h2⟩ := h
   simp only [List.cons_append, Bn]
   exact ⟨p, r ++ p2, rfl, h1, join a c r p2 h2 k⟩
theorem Om {P : Program} {rc rd : TypeId → Option (List Cty)} (h : ∀ t ts, rc t = some ts → ∃ us, rd t = some us ∧ Cle ts us) : ∀ {fs : List Field} {off : Nat} {ts : List Cty}, Lu P rc off fs = some ts → ∃ us, Lu P rd off fs = some us ∧ Cle ts us
 | [], off, ts, he => by simp only [Lu] at he; cases he; exact ⟨[], rfl, rfl, fun _ h => h⟩
 | f :: fs, off, ts, he => by
  simp only [Lu] at he
  split at he
  ·rename_i t1 h1
   split at he
   ·rename_i hc
    split at he
    ·rename_i l h2
     cases he
     obtain ⟨u1, g1, g2⟩ := h _ _ h1
     obtain ⟨u2, k1, k2⟩ := Om h h2
     refine ⟨u1 ++ u2, ?_, g2.append k2⟩
     simp only [Lu, g1]
     rw [if_pos ⟨hc.1, by rw [g2.1]; exact hc.2⟩, g2.1, k1]
    ·cases he
   ·cases he
  ·cases he
theorem Cle.rep {a b : List Cty} (h : Cle a b) : ∀ m, Cle (List.replicate m a).flatten (List.replicate m b).flatten
 | 0 => ⟨rfl, fun _ h => h⟩
 | m + 1 => by rw [List.replicate_succ, List.replicate_succ, List.flatten_cons, List.flatten_cons]; exact h.append (h.rep m)
theorem Fy {P : Program} {cut : List TypeId} {Q R : TypeId → List PV → Prop} (hQ : Xj Q R) : ∀ {n : Nat} {t : TypeId} {ts : List Cty}, tyT P cut Q n t = some ts → ∃ us, tyT P cut R n t = some us ∧ Cle ts us
 | 0, t, ts, h => by simp [tyT] at h
 | n + 1, t, ts, h => by
  simp only [tyT] at h ⊢
  split at h
  ·cases h; exact ⟨_, rfl, rfl, fun _ h => h⟩
  ·cases h; exact ⟨_, rfl, rfl, fun _ h => h⟩
  ·cases h; exact ⟨_, rfl, rfl, fun _ h => h⟩
  ·rename_i e hu
   split at h
   ·rename_i hc
    cases h
    rw [if_pos hc]
    refine ⟨_, rfl, rfl, fun ps hp => ?_⟩
    simp only [Bn, Ux] at hp ⊢
    obtain ⟨p, r, rfl, ⟨es, rfl, a1, a2, a3⟩, h2⟩ := hp
    exact ⟨_, _, rfl, ⟨es, rfl, a1, a2, fun x hx => hQ _ _ (a3 x hx)⟩, h2⟩
   ·rename_i hc
    rw [if_neg hc]
    split at h
    ·rename_i us hus
     split at h
     ·rename_i hl
      cases h
      obtain ⟨vs, g1, g2⟩ := Fy hQ hus
      simp only [g1]
      rw [if_pos ⟨by rw [g2.1]; exact hl.1, by rw [g2.1]; exact hl.2⟩]
      refine ⟨_, rfl, rfl, fun ps hp => ?_⟩
      simp only [Bn, Ux] at hp ⊢
      obtain ⟨p, r, rfl, ⟨es, rfl, a1, a2, a3⟩, h2⟩ := hp
      exact ⟨_, _, rfl, ⟨es, rfl, a1, a2, fun x hx => g2.2 _ (a3 x hx)⟩, h2⟩
     ·cases h
    ·cases h
  ·split at h
   ·rename_i us hus
    split at h
    ·rename_i hl
     cases h
     obtain ⟨vs, g1, g2⟩ := Om (fun t ts h => Fy hQ h) hus
     simp only [g1]
     rw [if_pos (by rw [g2.1]; exact hl)]
     exact ⟨_, rfl, g2⟩
    ·cases h
   ·cases h
  ·rename_i m e hu
   split at h
   ·rename_i us hus
    split at h
    ·rename_i hl
     cases h
     obtain ⟨vs, g1, g2⟩ := Fy hQ hus
     simp only [g1]
     rw [if_pos ⟨by rw [g2.1]; exact hl.1, by rw [g2.1]; exact hl.2⟩]
     exact ⟨_, rfl, g2.rep m⟩
    ·cases h
   ·cases h
  ·cases h
theorem RecOk.mono {P : Program} {cut : List TypeId} {N : Nat} : ∀ k, Xj (RecOk P cut N k) (RecOk P cut N (k + 1))
 | 0, e, x, h => h.elim
 | k + 1, e, x, h => by
  obtain ⟨ts, h1, h2⟩ := h
  obtain ⟨us, g1, g2⟩ := Fy (RecOk.mono k) h1
  exact ⟨us, g1, g2.2 _ h2⟩
abbrev Dx (w : World) : Nat → Nat → Option Value := fun b o => w.cell? ⟨b, o, none⟩
def CellsOk (F : Nat → Nat → Option Value) (ts : List Cty) (cs : List Value) (ps : List PV) : Prop :=
 cs.length = ps.length ∧ Bn ts ps ∧ ∀ (i : Nat) p, ps[i]? = some p → ∃ u, cs[i]? = some u ∧ VP F p u
theorem Jx : ∀ {ts us : List Cty} {ps qs : List PV}, Bn ts ps → Bn us qs → Bn (ts ++ us) (ps ++ qs)
 | [], us, ps, qs, h, k => by simp only [Bn] at h; subst h; simpa using k
 | t :: ts, us, ps, qs, h, k => by
  simp only [Bn] at h
  obtain ⟨p, r, rfl, h1, h2⟩ := h
  simp only [List.cons_append, Bn]
  exact ⟨p, r ++ qs, rfl, h1, Jx h2 k⟩
theorem Gk : ∀ {ts : List Cty} {ps : List PV}, Bn ts ps → ps.length = ts.length
 | [], ps, h => by simp only [Bn] at h; subst h; rfl
 | t :: ts, ps, h => by
  simp only [Bn] at h
  obtain ⟨p, r, rfl, h1, h2⟩ := h
  simp [Gk h2]
theorem CellsOk.append {F : Nat → Nat → Option Value} {ts us : List Cty} {cs ds : List Value} {ps qs : List PV} (h : CellsOk F ts cs ps) (k : CellsOk F us ds qs) : CellsOk F (ts ++ us) (cs ++ ds) (ps ++ qs) := by
 refine ⟨by simp [h.1, k.1], Jx h.2.1 k.2.1, fun i p hi => ?_⟩
 by_cases hlt : i < ps.length
 ·rw [List.getElem?_append_left hlt] at hi
  rw [List.getElem?_append_left (by rw [h.1]; exact hlt)]
  exact h.2.2 i p hi
 ·rw [List.getElem?_append_right (by omega)] at hi
  rw [List.getElem?_append_right (by rw [h.1]; omega), h.1]
  exact k.2.2 _ p hi
theorem CellsOk.one {F : Nat → Nat → Option Value} {t : Cty} {p : PV} {u : Value} (h : Ux t p) (k : VP F p u) : CellsOk F [t] [u] [p] := by
 refine ⟨rfl, ?_, fun i q hi => ?_⟩
 ·simp only [Bn]; exact ⟨p, [], rfl, h, rfl⟩
 ·cases i with
  | zero => simp at hi; subst hi; exact ⟨u, rfl, k⟩
  | succ i => simp at hi
section
variable {H : Type} {enc : TypeId × Value → H} {P : Program} {W : World}
theorem Hq {e : TypeId} : ∀ {ds : List (DataW H)} {d : DataW H} {x : Nat}, d ∈ ds → x ∈ d.weights P e → x ∈ DataW.weightsAll P e ds
 | [], d, x, hd, _ => by cases hd
 | y :: r, d, x, hd, hx => by
  simp only [DataW.weightsAll, List.mem_append]
  rcases List.mem_cons.1 hd with rfl | hd
  ·exact .inl hx
  ·exact .inr (Hq hd hx)
theorem On {n : Nat} {rc : TypeId → Option (List Cty)}
  (ih : ∀ t cs d ps ts, DataW.trod enc P W 0 (fun _ => true) true n t cs = some (d, ps) → rc t = some ts → (∀ x ∈ d.weights P t, x ≤ reachBytes) → ∃ pv, CellsOk (Dx W) ts cs pv) :
  ∀ (fs : List Field) (off : Nat) (cs : List Value) (xs : List (DataW H × List MemPlace)) (ts : List Cty), Lu P rc off fs = some ts → xs.length = fs.length →
   (∀ (i : Nat) f, fs[i]? = some f → DataW.trod enc P W 0 (fun _ => true) true n f.type ((cs.drop (f.offset - off)).take (P.cellsOf f.type)) = xs[i]?) →
   (∀ x ∈ DataW.weightsEach P (fs.map (·.type)) (xs.map (·.1)), x ≤ reachBytes) → cs.length = ts.length → ∃ pv, CellsOk (Dx W) ts cs pv
 | [], off, cs, xs, ts, ht, _, _, _, hl => by
  simp only [Lu] at ht; cases ht
  simp at hl
  subst hl
  exact ⟨[], rfl, rfl, by simp⟩
 | f :: fs, off, cs, xs, ts, ht, hx, hg, hw, hl => by
  simp only [Lu] at ht
  split at ht
  ·rename_i ts1 h1
   split at ht
   ·rename_i hc
    split at ht
    ·rename_i l h2
     cases ht
     cases xs with
     | nil => simp at hx
     | cons x xs =>
      have g0 := hg 0 f rfl
      rw [hc.1, Nat.sub_self] at g0
      simp only [List.drop_zero, List.getElem?_cons_zero] at g0
      simp only [List.map_cons, DataW.weightsEach, List.mem_append] at hw
      obtain ⟨pv1, c1⟩ := ih _ _ x.1 x.2 _ g0 h1 (fun y hy => hw y (.inl hy))
      rw [List.length_append] at hl
      have hd : (cs.drop ts1.length).length = l.length := by simp [hl]
      obtain ⟨pv2, c2⟩ := On ih fs (off + ts1.length) (cs.drop ts1.length) xs l h2 (by simpa using hx) (fun i f' hf => by
       have := hg (i + 1) f' (by simpa using hf)
       simp only [List.getElem?_cons_succ] at this
       rw [← this, List.drop_drop]
       have hle : off + ts1.length ≤ f'.offset := tyFs_le h2 i f' hf
       congr 3
       omega) (fun y hy => hw y (.inr hy)) hd
      have e : cs = (cs.take (P.cellsOf f.type)) ++ cs.drop ts1.length := by rw [← hc.2, List.take_append_drop]
      rw [e]
      exact ⟨pv1 ++ pv2, c1.append c2⟩
    ·cases ht
   ·cases ht
  ·cases ht
where
 tyFs_le {rc : TypeId → Option (List Cty)} : ∀ {fs : List Field} {off : Nat} {ts : List Cty}, Lu P rc off fs = some ts → ∀ (i : Nat) f, fs[i]? = some f → off ≤ f.offset
 | [], _, _, _, i, f, hf => by simp at hf
 | g :: fs, off, ts, h, i, f, hf => by
  simp only [Lu] at h
  split at h
  ·rename_i ts1 h1
   split at h
   ·rename_i hc
    split at h
    ·rename_i l h2
     cases i with
     | zero => simp at hf; subst hf; omega
     | succ i => have := tyFs_le h2 i f (by simpa using hf); omega
    ·cases h
   ·cases h
  ·cases h
theorem Xk {n : Nat} {e : TypeId} {ts : List Cty}
  (ih : ∀ cs d ps, DataW.trod enc P W 0 (fun _ => true) true n e cs = some (d, ps) → (∀ x ∈ d.weights P e, x ≤ reachBytes) → ∃ pv, CellsOk (Dx W) ts cs pv) (hc : ts.length = P.cellsOf e) :
  ∀ (m : Nat) (cs : List Value) (xs : List (DataW H × List MemPlace)), xs.length = m → cs.length = m * ts.length →
   (∀ i, i < m → DataW.trod enc P W 0 (fun _ => true) true n e ((cs.drop (i * P.cellsOf e)).take (P.cellsOf e)) = xs[i]?) →
   (∀ x ∈ DataW.weightsAll P e (xs.map (·.1)), x ≤ reachBytes) → ∃ pv, CellsOk (Dx W) (List.replicate m ts).flatten cs pv
 | 0, cs, xs, hx, hl, _, _ => by
  simp at hl
  subst hl
  exact ⟨[], rfl, rfl, by simp⟩
 | m + 1, cs, xs, hx, hl, hg, hw => by
  cases xs with
  | nil => simp at hx
  | cons x xs =>
   have g0 := hg 0 (by omega)
   simp only [Nat.zero_mul, List.drop_zero, List.getElem?_cons_zero] at g0
   simp only [List.map_cons, DataW.weightsAll, List.mem_append] at hw
   obtain ⟨pv1, c1⟩ := ih _ x.1 x.2 g0 (fun y hy => hw y (.inl hy))
   obtain ⟨pv2, c2⟩ := Xk ih hc m (cs.drop ts.length) xs (by simpa using hx) (by rw [List.length_drop, hl, Nat.add_mul]; omega) (fun i hi => by
    have := hg (i + 1) (by omega)
    simp only [List.getElem?_cons_succ] at this
    rw [← this, List.drop_drop]
    congr 3
    rw [Nat.add_mul, hc]; omega) (fun y hy => hw y (.inr hy))
   have e1 : cs = (cs.take (P.cellsOf e)) ++ cs.drop ts.length := by rw [← hc, List.take_append_drop]
   rw [e1, List.replicate_succ, List.flatten_cons]
   exact ⟨pv1 ++ pv2, c1.append c2⟩
theorem Lg {α : Type} {R : Nat → α → Prop} : ∀ (n : Nat), (∀ i, i < n → ∃ a, R i a) → ∃ l : List α, l.length = n ∧ ∀ i a, l[i]? = some a → R i a
 | 0, _ => ⟨[], rfl, by simp⟩
 | n + 1, h => by
  obtain ⟨l, h1, h2⟩ := Lg n (fun i hi => h i (by omega))
  obtain ⟨a, ha⟩ := h n (by omega)
  refine ⟨l ++ [a], by simp [h1], fun i b hb => ?_⟩
  rcases A0 hb with ⟨_, hb⟩ | ⟨rfl, rfl⟩
  ·exact h2 i b hb
  ·rw [h1]; exact ha
theorem trod_pv {cut : List TypeId} {N : Nat} (hcut : ∀ e ∈ cut, ∀ Q, ∃ ts, tyT P cut Q N e = some ts ∧ ts.length = P.cellsOf e ∧ 0 < ts.length) : ∀ (fuel : Nat) (Q : TypeId → List PV → Prop) (hQ : Xj (RecOk P cut N fuel) Q) (n : Nat) (t : TypeId) (cs : List Value) (d : DataW H) (ps : List MemPlace) (ts : List Cty),
  DataW.trod enc P W 0 (fun _ => true) true fuel t cs = some (d, ps) → tyT P cut Q n t = some ts → (∀ x ∈ d.weights P t, x ≤ reachBytes) → ∃ pv, CellsOk (Dx W) ts cs pv := by
 intro fuel
 induction fuel with
 | zero => intro Q hQ n t cs d ps ts h; simp [DataW.trod] at h
 | succ fuel ih0 =>
  intro Q hQ n t cs d ps ts h ht hw
  have ih := ih0 Q (fun e x hx => hQ e x (RecOk.mono fuel e x hx))
  cases n with
  | zero => simp [tyT] at ht
  | succ n =>
   simp only [tyT] at ht
   split at ht
   ·rename_i hu
    cases ht
    obtain ⟨b, rfl, e⟩ := DataW.trod_bool hu h
    exact ⟨[.bool b], .one ⟨b, rfl⟩ (.bool b)⟩
   ·rename_i k hu
    cases ht
    obtain ⟨m, rfl, e, hwf⟩ := DataW.trod_int hu h
    refine ⟨[.int k m], .one ⟨m, rfl, ?_⟩ (.int k m)⟩
    simpa [Lit.wf] using hwf
   ·rename_i hu
    cases ht
    obtain ⟨s, rfl, e, hwf⟩ := DataW.trod_string hu h
    cases e
    have := hw s.data.toList.length (by simp [DataW.weights])
    exact ⟨[.str s.data.toList], .one ⟨_, rfl, this⟩ (by have := VP.str (F := Dx W) s.data.toList; simpa using this)⟩
   ·rename_i e hu
    have slc : ∀ (us : List Cty) (c : Cty), us.length = P.cellsOf e → 0 < us.length → (∀ es : List (List PV), es.length * P.bytesOf e ≤ reachBytes → es.length ≤ maxLen → (∀ x ∈ es, Bn us x) → Ux c (.sl es)) →
      (∀ cs d ps, DataW.trod enc P W 0 (fun _ => true) true fuel e cs = some (d, ps) → (∀ x ∈ d.weights P e, x ≤ reachBytes) → ∃ pv, CellsOk (Dx W) us cs pv) → ∃ pv, CellsOk (Dx W) [c] cs pv := by
     intro us c hc1 hc2 hokc ihe
     rcases DataW.trod_slice hu h with ⟨rfl, _⟩ | ⟨a, len, cap, elems, rest, m, hm, rfl, hx, _, hlc, hcm, hel, hg, hsp, _⟩
     ·exact ⟨[.sl []], .one (hokc [] (by simp) (by simp) (by simp)) .nils⟩
     ·obtain rfl : m = fuel := by omega
      cases hx
      have hwl : (elems.length + rest.length) * P.bytesOf e ≤ reachBytes := hw _ (by simp [DataW.weights, hu])
      have each : ∀ i, i < len → ∃ pv : List PV, Bn us pv ∧ pv.length = us.length ∧ ∀ (j : Nat) p, pv[j]? = some p → ∃ u, W.cell? ((a.add (i * P.cellsOf e)).add j) = some u ∧ VP (Dx W) p u := by
       intro i hi
       have := hg i hi
       have hlt : i < elems.length := by omega
       rw [List.getElem?_eq_getElem hlt, Option.bind_eq_some_iff] at this
       obtain ⟨cs', h1, h2⟩ := this
       obtain ⟨pv, c1, c2, c3⟩ := ihe cs' elems[i].1 elems[i].2 (by rw [h2]) (fun x hx => hw x (by
        simp only [DataW.weights, hu, List.mem_cons, List.mem_append]
        exact .inr (.inl (Hq (List.mem_map.2 ⟨elems[i], List.getElem_mem _, rfl⟩) hx))))
       refine ⟨pv, c2, Gk c2, fun j p hj => ?_⟩
       obtain ⟨u, hu', hv⟩ := c3 j p hj
       refine ⟨u, ?_, hv⟩
       unfold World.cells? at h1
       split at h1
       ·have := mapM_some_get h1 j j (by
         have := (List.getElem?_eq_some_iff.1 hu').1
         have := mapM_some_length h1
         simp at this
         rw [List.getElem?_range (by omega)])
        rw [this]; exact hu'
       ·cases h1
      obtain ⟨es, e1, e2⟩ := Lg len each
      have hall : ∀ x ∈ es, Bn us x ∧ x.length = us.length := by
       intro x hx
       obtain ⟨i, hi⟩ := List.getElem?_of_mem hx
       exact ⟨(e2 i x hi).1, (e2 i x hi).2.1⟩
      have hok : Ux c (.sl es) := hokc es (Nat.le_trans (Nat.mul_le_mul_right _ (by omega)) hwl) (by omega) (fun x hx => (hall x hx).1)
      by_cases h0 : len = 0
      ·subst h0
       have : es = [] := List.eq_nil_of_length_eq_zero e1
       subst this
       exact ⟨[.sl []], .one hok (.sl0 a cap hcm)⟩
      ·have hspot : a.spot = none := by
        obtain ⟨x, hx⟩ : ∃ x, es[0]? = some x := ⟨es[0]'(by omega), by simp [show 0 < es.length by omega]⟩
        obtain ⟨_, hxl, hcell⟩ := e2 0 x hx
        obtain ⟨p, hp⟩ : ∃ p, x[0]? = some p := ⟨x[0]'(by omega), by simp [show 0 < x.length by omega]⟩
        obtain ⟨u, hu', _⟩ := hcell 0 p hp
        simp only [Nat.zero_mul, Addr.add, if_true] at hu'
        unfold World.cell? at hu'
        split at hu'
        ·split at hu'
         ·cases hu'
         ·rename_i hs; simpa using hs
        ·cases hu'
       obtain ⟨b, off, sp⟩ := a
       simp only at hspot
       subst hspot
       refine ⟨[.sl es], .one hok ?_⟩
       have key : ∀ i j p, at2 es i j = some p → ∃ u, Dx W b (off + i * us.length + j) = some u ∧ VP (Dx W) p u := by
        intro i j p hp
        unfold at2 at hp
        rw [Option.bind_eq_some_iff] at hp
        obtain ⟨x, hx, hj⟩ := hp
        obtain ⟨_, _, hcell⟩ := e2 i x hx
        obtain ⟨u, hu', hv⟩ := hcell j p hj
        refine ⟨u, ?_, hv⟩
        rw [Addr.add_lit, Addr.add_lit, ← hc1] at hu'
        exact hu'
       have := VP.mk (F := Dx W) (es := es) (size := us.length) (b := b) (off := off) (cap := cap) (by omega) hcm (fun x hx => (hall x hx).2) key
       rw [e1] at this
       exact this
    split at ht
    ·rename_i hcu
     cases ht
     obtain ⟨us, k1, k2, k3⟩ := hcut e hcu (RecOk P cut N fuel)
     refine slc us _ k2 k3 (fun es h1 h2 h3 => ⟨es, rfl, h1, h2, fun x hx => hQ e x ⟨us, k1, h3 x hx⟩⟩) (fun cs d ps h1 h2 => ih0 (RecOk P cut N fuel) (fun _ _ h => h) N e cs d ps us h1 k1 h2)
    ·split at ht
     ·rename_i us hus
      split at ht
      ·rename_i hc
       cases ht
       exact slc us _ hc.1 hc.2 (fun es h1 h2 h3 => ⟨es, rfl, h1, h2, h3⟩) (fun cs d ps h1 h2 => ih n e cs d ps us h1 hus h2)
      ·cases ht
     ·cases ht
   ·rename_i fs hu
    split at ht
    ·rename_i us hus
     split at ht
     ·rename_i hc
      rw [← Option.some.inj ht]
      obtain ⟨xs, m, hm, hx, hl, hxl, hg⟩ := DataW.trod_struct hu h
      obtain rfl : m = fuel := by omega
      cases hx
      refine On (fun t cs d ps ts h1 h2 h3 => ih n t cs d ps ts h1 h2 h3) fs.toList 0 cs xs us hus (by simp [hxl]) (fun i f hf => ?_) (fun x hx => hw x (by simp [DataW.weights, hu, hx])) (by rw [hl, hc])
      simpa using hg i f (by simpa using hf)
     ·cases ht
    ·cases ht
   ·rename_i m e hu
    split at ht
    ·rename_i us hus
     split at ht
     ·rename_i hc
      cases ht
      obtain ⟨xs, q, hq, hx, hl, hxl, hg⟩ := DataW.trod_array hu h
      obtain rfl : q = fuel := by omega
      cases hx
      exact Xk (fun cs d ps h1 h3 => ih n e cs d ps us h1 hus h3) hc.2 m cs xs hxl (by rw [hl, hc.1]) hg (fun x hx => hw x (by simp [DataW.weights, hu, hx]))
     ·cases ht
    ·cases ht
   ·cases ht
def Oo (agg : Bool) (ps : List PV) : LV := if agg then .agg (ps.map .p) else match ps with | [p] => .p p | _ => .und
def Jy (P : Program) (cut : List TypeId) (Q : TypeId → List PV → Prop) (n : Nat) : List TypeId → Option (List (Bool × List Cty))
 | [] => some []
 | t :: r => match P.underlying t, tyT P cut Q n t, Jy P cut Q n r with
  | some d, some ts, some l => some ((Ie d, ts) :: l)
  | _, _, _ => none
def OkArgs : List (Bool × List Cty) → List LV → Prop
 | [], l => l = []
 | (agg, ts) :: r, l => ∃ ps m, l = Oo agg ps :: m ∧ Bn ts ps ∧ OkArgs r m
theorem tyT_one {cut : List TypeId} {Q : TypeId → List PV → Prop} {n : Nat} {t : TypeId} {d : TypeDesc} {ts : List Cty} (hd : P.underlying t = some d) (ha : Ie d = false) (h : tyT P cut Q n t = some ts) : ts.length = 1 := by
 cases n with
 | zero => simp [tyT] at h
 | succ n =>
  simp only [tyT, hd] at h
  cases d <;> simp only [Ie, Bool.true_eq_false] at ha <;> first | (cases h; rfl) | skip
  all_goals
   simp only at h
   first
    | (split at h
       ·cases h; rfl
       ·split at h
        ·split at h
         ·cases h; rfl
         ·cases h
        ·cases h)
    | (split at h
       ·split at h
        ·cases h; rfl
        ·cases h
       ·cases h)
    | cases h
theorem Oq {cut : List TypeId} {Q R : TypeId → List PV → Prop} (hQ : Xj Q R) {n : Nat} : ∀ {ts : List TypeId} {a b : List (Bool × List Cty)}, Jy P cut Q n ts = some a → Jy P cut R n ts = some b → ∀ vs, OkArgs a vs → OkArgs b vs
 | [], a, b, h, k, vs, hv => by simp only [Jy] at h k; cases h; cases k; exact hv
 | t :: r, a, b, h, k, vs, hv => by
  simp only [Jy] at h k
  split at h
  ·rename_i d ts l h1 h2 h3
   cases h
   obtain ⟨us, g1, g2⟩ := Fy hQ h2
   split at k
   ·rename_i d' ts' l' e1 e2 e3
    rw [h1] at e1; rw [g1] at e2
    cases e1; cases e2; cases k
    obtain ⟨ps, m, rfl, a1, a2⟩ := hv
    exact ⟨ps, m, rfl, g2.2 _ a1, Oq hQ h3 e3 _ a2⟩
   ·cases k
  ·cases h
theorem RecOk.le {cut : List TypeId} {N : Nat} : ∀ {k m : Nat}, k ≤ m → Xj (RecOk P cut N k) (RecOk P cut N m)
 | k, m, h => by
  induction h with
  | refl => exact fun _ _ h => h
  | step _ ih => exact fun e x hx => RecOk.mono _ e x (ih e x hx)
theorem T0 {cut : List TypeId} {N : Nat} (hcut : ∀ e ∈ cut, ∀ Q, ∃ ts, tyT P cut Q N e = some ts ∧ ts.length = P.cellsOf e ∧ 0 < ts.length) {n : Nat} {G : Gh} (hG : G.F = Dx W) : ∀ {ts : List TypeId} {vs : List Value} {ds gs : List (DataW H)} {us : List TypeId} {ps : List MemPlace} {tys : Nat → List (Bool × List Cty)}, DataW.TrodAll enc P W 0 (fun _ => true) true ts vs ds ps → (∀ k, Jy P cut (RecOk P cut N k) n ts = some (tys k)) →
  (∀ (j : Nat) t v, ts[j]? = some t → vs[j]? = some v → Value.okWide P W .any 0 t v ∨ ∃ base, Value.okWide P W .any base t v) → (∀ x ∈ DataW.weightsEach P (ts ++ us) (ds ++ gs), x ≤ reachBytes) →
  ∃ k, ∃ args, OkArgs (tys k) args ∧ args.length = vs.length ∧ ∀ (i : Nat) x u, args[i]? = some x → vs[i]? = some u → VL G x u
 | [], vs, ds, gs, us, ps, tys, h, ht, _, _ => by
  have := ht 0
  simp only [Jy, Option.some.injEq] at this
  obtain ⟨rfl, _, _⟩ := ChangeShapes.trodAll_nil h
  exact ⟨0, [], by rw [← this]; rfl, rfl, by simp⟩
 | t :: ts, vs, ds, gs, us, ps, tys, h, ht, hok, hw => by
  have hk : ∀ k, ∃ dd tt ll, P.underlying t = some dd ∧ tyT P cut (RecOk P cut N k) n t = some tt ∧ Jy P cut (RecOk P cut N k) n ts = some ll ∧ tys k = (Ie dd, tt) :: ll := by
   intro k
   have := ht k
   simp only [Jy] at this
   split at this
   ·rename_i dd tt ll h1 h2 h3
    exact ⟨dd, tt, ll, h1, h2, h3, (Option.some.inj this).symm⟩
   ·cases this
  have hl' : ∀ k, Jy P cut (RecOk P cut N k) n ts = some ((Jy P cut (RecOk P cut N k) n ts).getD []) := by
   intro k
   obtain ⟨dd, tt, ll, _, _, h3, _⟩ := hk k
   rw [h3]; rfl
  ·obtain ⟨v, vs', d, ds', p, q, rfl, rfl, rfl, ⟨fuel, h1⟩, h2⟩ := ChangeShapes.trodAll_cons h
   simp only [List.cons_append, DataW.weightsEach, List.mem_append] at hw
   obtain ⟨dd, tt, ll0, hd, htt, _, _⟩ := hk fuel
   obtain ⟨pv, c1, c2, c3⟩ := trod_pv hcut fuel _ (fun _ _ h => h) n t _ d p tt h1 htt (fun x hx => hw x (.inl hx))
   obtain ⟨k', args, a1, a2, a3⟩ := T0 hcut (n := n) hG h2 (tys := fun k => (Jy P cut (RecOk P cut N k) n ts).getD []) hl' (fun j t v hj hv => hok (j + 1) t v (by simpa using hj) (by simpa using hv)) (fun x hx => hw x (.inr hx))
   have hv : VL G (Oo (Ie dd) pv) v := by
    have hlen := Gk c2
    obtain ⟨base, hk⟩ : ∃ base, Value.okWide P W .any base t v := by
     rcases hok 0 t v rfl rfl with h | h
     ·exact ⟨0, h⟩
     ·exact h
    unfold Oo
    split
    ·rename_i ha
     have : ∃ arr, v = .agg arr := by
      unfold Value.okWide at hk
      rw [hd] at hk
      cases dd <;> simp [Ie] at ha
      all_goals exact ⟨_, hk.choose_spec.1⟩
     obtain ⟨arr, rfl⟩ := this
     simp only [Value.cells] at c1 c3
     refine .agg arr (by simpa using c1) (fun i u hu => ?_) (fun i x hx => ?_)
     ·have hlt : i < pv.length := by rw [← c1]; simpa using (Array.getElem?_eq_some_iff.1 hu).1
      obtain ⟨u', hu', hvp⟩ := c3 i pv[i] (by simp [hlt])
      rw [Array.getElem?_toList, hu] at hu'
      cases hu'
      exact hvp.one
     ·rw [List.getElem?_map] at hx
      cases hq : pv[i]? with
      | none => simp [hq] at hx
      | some y =>
       simp [hq] at hx; subst hx
       obtain ⟨u', hu', hvp⟩ := c3 i y hq
       rw [Array.getElem?_toList] at hu'
       rw [Array.getD_eq_getD_getElem?, hu']
       rw [← hG] at hvp
       exact .p hvp
    ·rename_i ha
     have h1 := tyT_one hd (by simpa using ha) htt
     have hna : ∀ arr, v ≠ .agg arr := by
      rintro arr rfl
      unfold Value.okWide at hk
      rw [hd] at hk
      cases dd <;> simp [Ie] at ha <;> simp [Cell.okWide, Cell.ok, hd] at hk
     obtain ⟨y, rfl⟩ := List.length_eq_one_iff.1 (hlen.trans h1)
     ·obtain ⟨u', hu', hvp⟩ := c3 0 y rfl
      have : v.cells = #[v] := by cases v <;> first | rfl | exact absurd rfl (hna _)
      rw [this] at hu'
      simp at hu'
      subst hu'
      rw [← hG] at hvp
      exact .p hvp
   obtain ⟨dd2, tt2, ll2, q1, q2, q3, q4⟩ := hk (max fuel k')
   have hdd : dd2 = dd := by rw [hd] at q1; exact (Option.some.inj q1).symm
   subst hdd
   obtain ⟨us2, g1, g2⟩ := Fy (RecOk.le (P := P) (cut := cut) (N := N) (Nat.le_max_left fuel k')) htt
   rw [q2] at g1
   cases g1
   have a1' := Oq (RecOk.le (P := P) (cut := cut) (N := N) (Nat.le_max_right fuel k')) (hl' k') q3 _ a1
   refine ⟨max fuel k', Oo (Ie dd2) pv :: args, by rw [q4]; exact ⟨pv, args, rfl, g2.2 _ c2, a1'⟩, by simp [a2], fun i x u hx hu => ?_⟩
   cases i with
   | zero => simp at hx hu; subst hx; subst hu; exact hv
   | succ i => exact a3 i x u (by simpa using hx) (by simpa using hu)
end
end Go.LS
namespace Go.LS
def gh0 (w : World) : Gh := ⟨Dx w, fun _ => none, fun _ _ => none⟩
theorem wr0 (w : World) : WR (gh0 w) [] w where
 fr _ _ _ h := h
 dom _ _ := ⟨rfl, fun _ => rfl⟩
 row o es h := by simp at h
 map o es h := by simp at h
 iter o s p h := by simp at h
 spare o n hw h := by simp at h
 uniq o o' b h := by simp [Owns] at h
 ownF o b h := by simp [Owns] at h
 kind o x h := by simp at h
theorem Ext0.below {G G' : Gh} {st' : List LObj} {w w' : World} (h : Ext0 G [] w G' st' w') : RowKit.Below w.heap.size w w' :=
 ⟨h.os, h.tape, h.output, h.hsz, fun k hk => h.unch k hk (fun o ho => by simp [Owns] at ho)⟩
theorem Io {H : Type} {enc : TypeId × Value → H} {P : Program} (hl : laidOutB P = true) {W W' : World} (hb : RowKit.Below W.heap.size W W') :
  ∀ {ts : List TypeId} {vs : List Value} {ds : List (DataW H)} {ps : List MemPlace}, (∀ t ∈ ts, P.readableRec t = true ∧ t < P.types.size) → DataW.TrodAll enc P W 0 (fun _ => true) true ts vs ds ps →
   DataW.TrodAll enc P W' 0 (fun b => decide (b < W.heap.size)) true ts vs ds ps
 | [], vs, ds, ps, _, h => by
  obtain ⟨rfl, rfl, rfl⟩ := ChangeShapes.trodAll_nil h
  rfl
 | t :: ts, vs, ds, ps, ht, h => by
  obtain ⟨v, vs', d, ds', p, q, rfl, rfl, rfl, h1, h2⟩ := ChangeShapes.trodAll_cons h
  refine ⟨p, q, ?_, Io hl hb (fun t hm => ht t (by simp [hm])) h2, rfl⟩
  exact RowKit.Below.trod hl (ht t (by simp)).1 (ht t (by simp)).2 h1 hb (fun x hx => by
   obtain ⟨m, hm⟩ := h1
   exact DataW.trod_lt m _ _ _ hm x hx)
theorem Lh {H : Type} {enc : TypeId × Value → H} {P : Program} {W : World} : ∀ {ts : List TypeId} {vs : List Value} {ds : List (DataW H)} {ps : List MemPlace}, DataW.TrodAll enc P W 0 (fun _ => true) true ts vs ds ps → ds.length = vs.length
 | [], vs, ds, ps, h => by
  obtain ⟨rfl, rfl, _⟩ := ChangeShapes.trodAll_nil h
  rfl
 | t :: ts, vs, ds, ps, h => by
  obtain ⟨v, vs', d, ds', p, q, rfl, rfl, rfl, _, h2⟩ := ChangeShapes.trodAll_cons h
  simp [Lh h2]
theorem Pr {H : Type} {enc : TypeId × Value → H} {P : Program} {lp : Bp} (hp : PR P lp) (hl : laidOutB P = true) {f : FuncId} {fn : Func} {s : ChangeSpec} {tb : TypeId} {cut : List TypeId} {N n : Nat} {tys : Nat → List (Bool × List Cty)}
  (hcut : ∀ e ∈ cut, ∀ Q, ∃ ts, tyT P cut Q N e = some ts ∧ ts.length = P.cellsOf e ∧ 0 < ts.length)
  (hps : fn.params.toList.all (fun t => P.readableRec t && decide (t < P.types.size)) = true) (hres : fn.resultTypes = #[tb]) (htb : P.underlying tb = some .bool)
  (ht : ∀ k, Jy P cut (RecOk P cut N k) n fn.params.toList = some (tys k)) (hv : s.vars = []) (hsz : ∀ k, ∀ vs : List LV, OkArgs (tys k) vs → vs.length = fn.params.size)
  (hs : ∀ ds : List (DataW H), ds.length = fn.params.size → s.fn H ds = { results := [.lit (.bool true)], args := ds, vars := [] })
  (W : World) (base : Nat) (args : Array Value) (ds gs : List (DataW H)) (before : List MemPlace)
  (hrun : ∀ j vs, OkArgs (tys j) vs → ∃ k st', D0 lp k f vs [] = some (.p (.bool true), st'))
  (hval : ∀ (j : Nat) t v, fn.params[j]? = some t → args[j]? = some v → Value.okWide P W .any base t v)
  (hW : DataW.Whole enc P fn.params.toList s.vars false W args.toList ds gs before)
  (hw : (DataW.weightsEach P (fn.params.toList ++ s.plain.varTypes P) (ds ++ gs)).all (· ≤ reachBytes) = true) :
  Calls P f args W fun e W' => ∃ v, e = .returned v ∧ s.post enc P fn false true false false W args v W' := by
 have hW' := hW
 obtain ⟨p, q, hA, hV, rfl, hfz, _⟩ := hW
 rw [hv] at hV
 obtain ⟨rfl, rfl⟩ := ChangeShapes.trodVars_none hV
 have hwx : ∀ x ∈ DataW.weightsEach P (fn.params.toList ++ s.plain.varTypes P) (ds ++ []), x ≤ reachBytes := fun x hx => by simpa using List.all_eq_true.1 hw x hx
 obtain ⟨j0, vs, a1, a2, a3⟩ := T0 (G := gh0 W) hcut rfl hA ht (fun j t v hj hv' => .inr ⟨base, hval j t v (by simpa using hj) (by simpa using hv')⟩) hwx
 obtain ⟨k, st', hr⟩ := hrun j0 vs a1
 obtain ⟨_, hcall⟩ := Si hp k f vs [] _ _ hr
 refine (hcall (gh0 W) W args (wr0 W) ⟨by simpa using a2.symm, fun i x hx => ?_⟩).mono ?_
 ·have hlt : i < args.size := by have := (List.getElem?_eq_some_iff.1 hx).1; rw [a2] at this; simpa using this
  have := a3 i x args[i] hx (by simp [hlt])
  rw [Array.getD_eq_getD_getElem?, Array.getElem?_eq_getElem hlt]
  exact this
 ·rintro e W' ⟨u, G', rfl, _, hu, hx⟩
  have hub := hu.bool_inv
  subst hub
  have bel := hx.below
  have hdl : ds.length = fn.params.size := by
   rw [← hsz j0 vs a1, a2]
   exact Lh hA
  refine ⟨_, rfl, ds, [], _, [], p, [], hW', ?_, ?_, ?_, bel.frame _, fun h => by cases h⟩
  ·rw [List.append_nil, hs ds hdl, hres]
   exact ChangeShapes.trodAll_mk1 ⟨1, by simp [DataW.trod, htb, Value.cells]⟩
  ·rw [List.append_nil, hs ds hdl]
   refine Io hl bel (fun t hm => ?_) hA
   have := List.all_eq_true.1 hps t hm
   simpa using this
  ·rw [List.append_nil, hs ds hdl, hv]
   rfl
end Go.LS
namespace Go.LS
theorem OkArgs.length : ∀ {tys : List (Bool × List Cty)} {vs : List LV}, OkArgs tys vs → vs.length = tys.length
 | [], vs, h => by cases h; rfl
 | (a, t) :: r, vs, h => by
  obtain ⟨ps, m, rfl, _, h2⟩ := h
  simp [h2.length]
end Go.LS
set_option linter.unusedVariables false
set_option linter.unusedSimpArgs false
namespace Go.LS
theorem E4 {size bytes : Nat} {E X : List (List PV)} {st : List LObj} {x : LV} (hx : Eb false st x = some X) (hE : Gs size E = true) (hX : Gs size X = true) (hne : X ≠ [])
  (hb : (E.length + X.length) * bytes ≤ 140737488355328) (hm : E.length + X.length ≤ 9223372036854775807) (h0 : 0 < size) :
  Am A2 [] st (.append false size bytes (.const (.tight E)) (.const x)) = some (.sl (E ++ X) st.length (E ++ X).length, st ++ [.spare size (E ++ X).length]) := by
 have : X.isEmpty = false := by cases X <;> simp_all
 refine L5 ?_
 simp [LX.ev, Fc, hx, hX, hE, this, Qi hb, maxLen, hm, h0]
theorem Gl {size bytes tg : Nat} {E X : List (List PV)} {st : List LObj} {x : LV} (hs : st[tg]? = some (.spare size E.length)) (hx : Eb false st x = some X) (hX : Gs size X = true)
  (hb : (E.length + X.length) * bytes ≤ 140737488355328) (hm : E.length + X.length ≤ 9223372036854775807) (h0 : 0 < size) :
  Am A2 [] st (.append false size bytes (.const (.sl E tg E.length)) (.const x)) = some (.sl (E ++ X) tg (E ++ X).length, st.set tg (.spare size (E ++ X).length)) := by
 by_cases hM : X = []
 ·subst hM
  refine L5 ?_
  simp [LX.ev, Fc, hx, hX, hs]
  obtain ⟨h1, h2⟩ := List.getElem?_eq_some_iff.1 hs
  conv => rhs; rw [← h2]
  simp
 ·have : X.isEmpty = false := by cases X <;> simp_all
  refine L5 ?_
  simp [LX.ev, Fc, hx, hX, hs, this, Qi hb, maxLen, hm, h0, hM]
theorem Ot {A B : List UInt8} {st : List LObj} (h : A.length + B.length ≤ 9223372036854775807) :
  Am A2 [] st (.bin .add (.const (.p (.str A))) (.const (.p (.str B)))) = some (.p (.str (A ++ B)), st) := by
 simp [Am, LX.ev, Vz, sbin, h]
theorem M0 {size bytes : Nat} {z : List LV} {c : Int} {st : List LObj} (h : 0 < c ∧ c * (bytes : Int) ≤ 281474976710656 ∧ c ≤ 9223372036854775807) (hz : z.length = size) (h0 : 0 < size) :
  Am A2 [] st (.mkslice size bytes z (.const (.p (.int .i64 0))) (.const (.p (.int .i64 c)))) = some (.sl [] st.length 0, st ++ [.spare size 0]) := by
 have h1 : 0 ≤ c := by omega
 simp [Am, LX.ev, LV.asInt, h.1, h.2.1, h1, hz, h0, maxLen]
 omega
theorem Sl {neg : Bool} {L : List UInt8} {st : List LObj} (h : L ≠ []) :
  Am A2 [] st (.nileq neg .slice (.const (.p (.sl (bs L))))) = some (.p (.bool neg), st) := by
 cases L with
 | nil => exact (h rfl).elim
 | cons c r => simp [Am, LX.ev, LV.nilq, bs]
theorem I1 {M : List UInt8} {i : Nat} {st : List LObj} (h : i < M.length) :
  Am A2 [] st (.index (.const (.p (.str M))) (.const (.p (.int .i64 ((i : Nat) : Int))))) = some (.p (.int .u8 ((M.getD i 0).toNat : Int)), st) := by
 simp [Am, LX.ev, LV.asInt, h]
end Go.LS
namespace Go.LS
theorem T2 : ∀ {es : List (List PV)}, (∀ e ∈ es, Bn [.int .u8] e) → ∃ b : List UInt8, es = bs b
 | [], _ => ⟨[], rfl⟩
 | e :: r, h => by
  obtain ⟨b, rfl⟩ := T2 (es := r) (fun x hx => h x (List.mem_cons_of_mem _ hx))
  obtain ⟨_, _, rfl, ⟨n, rfl, h0, h1⟩, rfl⟩ := h e (List.mem_cons_self ..)
  replace h0 : 0 ≤ n := h0
  replace h1 : n ≤ 255 := h1
  refine ⟨UInt8.ofNat n.toNat :: b, ?_⟩
  have := Tv h0 h1
  simp only [bs, List.map_cons, List.map_nil, List.cons.injEq] at this
  simp [bs]
  omega
theorem okArg {agg : Bool} {ts : List Cty} {r : List (Bool × List Cty)} {l : List LV} (h : OkArgs ((agg, ts) :: r) l) : ∃ ps m, l = Oo agg ps :: m ∧ Bn ts ps ∧ OkArgs r m := h
theorem okEnd {l : List LV} (h : OkArgs [] l) : l = [] := h
theorem okSl {u : List Cty} {b : Nat} {ts : List Cty} {ps : List PV} (h : Bn (.sl u b :: ts) ps) : ∃ n r, ps = .sl n :: r ∧ (n.length * b ≤ reachBytes ∧ n.length ≤ maxLen ∧ ∀ e ∈ n, Bn u e) ∧ Bn ts r := by
 obtain ⟨_, r, rfl, ⟨n, rfl, h1⟩, h2⟩ := h
 exact ⟨n, r, rfl, h1, h2⟩
theorem okNil {ps : List PV} (h : Bn [] ps) : ps = [] := h
end Go.LS
set_option linter.unusedVariables false
namespace Go.LS
def Fz {α σ ρ : Type} (f : σ → α → ρ ⊕ σ) (e : σ → ρ) : σ → List α → ρ
 | s, [] => e s
 | s, x :: r => match f s x with
  | .inl y => y
  | .inr s' => Fz f e s' r
theorem B6 {α : Type} {xs : List α} {i : Nat} {x : α} (h : xs[i]? = some x) : xs.drop i = x :: xs.drop (i + 1) := by
 obtain ⟨hi, rfl⟩ := List.getElem?_eq_some_iff.1 h
 exact List.drop_eq_getElem_cons hi
theorem H5 {α σ : Type} {lp : Bp} {k : Nat} {L : List Bool × Bm} (T : Nat → σ → List LV) (S : Nat → σ → List LObj) (xs : List α) (f : σ → α → (C1 × List LV × List LObj) ⊕ σ) (e : σ → C1 × List LV × List LObj) (Inv : Nat → σ → Prop)
  (hs : ∀ i s x, xs[i]? = some x → Inv i s → (∀ r, f s x = .inl r → LoopN lp k L (T i s) (S i s) r) ∧ ∀ s', f s x = .inr s' → Inv (i + 1) s' ∧ ∀ r, LoopN lp k L (T (i + 1) s') (S (i + 1) s') r → LoopN lp k L (T i s) (S i s) r)
  (he : ∀ s, Inv xs.length s → LoopN lp k L (T xs.length s) (S xs.length s) (e s)) (s0 : σ) (h0 : Inv 0 s0) : LoopN lp k L (T 0 s0) (S 0 s0) (Fz f e s0 xs) := by
 have key : ∀ n i s, n + i = xs.length → Inv i s → LoopN lp k L (T i s) (S i s) (Fz f e s (xs.drop i)) := by
  intro n
  induction n with
  | zero =>
   intro i s h hi
   obtain rfl : i = xs.length := by omega
   rw [List.drop_length]
   exact he s hi
  | succ n ih =>
   intro i s h hi
   have hx : xs[i]? = some (xs[i]'(by omega)) := List.getElem?_eq_getElem (by omega)
   rw [B6 hx]
   obtain ⟨h1, h2⟩ := hs i s _ hx hi
   simp only [Fz]
   cases hf : f s (xs[i]'(by omega)) with
   | inl r => exact h1 r hf
   | inr s' =>
    obtain ⟨h3, h4⟩ := h2 s' hf
    exact h4 _ (ih (i + 1) s' (by omega) h3)
 have := key xs.length 0 s0 (by omega) h0
 rwa [List.drop_zero] at this
theorem Dy {α : Type} {lp : Bp} {k : Nat} {L : List Bool × Bm} (T : Nat → List LV) (S : List LObj) (xs : List α) (p : α → Bool) {rF rT : C1 × List LV × List LObj}
  (hF : ∀ i x, xs[i]? = some x → p x = false → LoopN lp k L (T i) S rF) (hS : ∀ i x r, xs[i]? = some x → p x = true → LoopN lp k L (T (i + 1)) S r → LoopN lp k L (T i) S r)
  (hE : LoopN lp k L (T xs.length) S rT) : LoopN lp k L (T 0) S (if xs.all p = true then rT else rF) := by
 have := H5 (σ := Unit) (fun i _ => T i) (fun _ _ => S) xs (fun _ x => if p x = true then .inr () else .inl rF) (fun _ => rT) (fun _ _ => True)
  (fun i s x hx _ => by
    cases hp : p x with
    | true => simp only [if_true]; exact ⟨fun r h => (by cases h), fun s' _ => ⟨trivial, fun r hr => hS i x r hx hp hr⟩⟩
    | false => simp only [Bool.false_eq_true, if_false]; exact ⟨fun r h => (by cases h; exact hF i x hx hp), fun s' h => (by cases h)⟩)
  (fun _ _ => hE) () trivial
 have e : ∀ l : List α, Fz (fun (_ : Unit) x => if p x = true then (.inr () : (C1 × List LV × List LObj) ⊕ Unit) else .inl rF) (fun _ => rT) () l = if l.all p = true then rT else rF := by
  intro l
  induction l with
  | nil => rfl
  | cons x r ih =>
   have e1 : (x :: r).all p = (p x && r.all p) := rfl
   simp only [Fz, e1]
   by_cases hp : p x = true
   ·simp only [hp, if_true, Bool.true_and]; exact ih
   ·simp only [hp, Bool.false_and, Bool.false_eq_true, if_false]
 rw [e] at this
 exact this
theorem B2 {α σ : Type} {lp : Bp} {k : Nat} {L : List Bool × Bm} (T : Nat → σ → List LV) (S : Nat → σ → List LObj) (xs : List α) (f : σ → α → σ) (e : σ → C1 × List LV × List LObj) (Inv : Nat → σ → Prop)
  (hS : ∀ i s x r, xs[i]? = some x → Inv i s → Inv (i + 1) (f s x) ∧ (LoopN lp k L (T (i + 1) (f s x)) (S (i + 1) (f s x)) r → LoopN lp k L (T i s) (S i s) r))
  (hE : ∀ s, Inv xs.length s → LoopN lp k L (T xs.length s) (S xs.length s) (e s)) (s0 : σ) (h0 : Inv 0 s0) : LoopN lp k L (T 0 s0) (S 0 s0) (e (xs.foldl f s0)) := by
 have := H5 T S xs (fun s x => .inr (f s x)) e Inv (fun i s x hx hi => ⟨fun r h => (by cases h), fun s' h => (by cases h; exact ⟨(hS i s x (e s) hx hi).1, fun r hr => (hS i s x r hx hi).2 hr⟩)⟩) hE s0 h0
 have e2 : ∀ (l : List α) s, Fz (fun s x => (.inr (f s x) : (C1 × List LV × List LObj) ⊕ σ)) e s l = e (l.foldl f s) := by
  intro l
  induction l with
  | nil => intro s; rfl
  | cons x r ih => intro s; simp only [Fz, List.foldl_cons]; exact ih _
 rw [e2] at this
 exact this
theorem LoopAt.onG {lp : Bp} {N k : Nat} {mask : List Bool} {c : Bm} {t t1 t2 t3 : List LV} {st st1 st3 : List LObj} {os os' : Os} {ps : List Prop} {r : C1 × List LV × List LObj}
  (h : Cy lp k N c t st os = some (.normal, t1, st1, ps, os')) (hk : kill mask t1 = t2) (hg : gc k t2 st1 = some (t3, st3)) (hp : Conj ps) (hr : LoopAt lp k mask c t3 st3 r) : LoopAt lp k mask c t st r := by
 refine LoopAt.on (N := N) (os := os) (ps := ps) (t' := t3) (st' := st3) ?_ hp hr
 unfold Ku
 rw [h]
 simp only [hk, hg]
theorem nx {i : Nat} (h : i ≤ 1000000000000000) : IntKind.wrap .i64 ((i : Int) + 1) = ((i + 1 : Nat) : Int) := by
 rw [A9 (by omega) (by omega)]; rfl
theorem Hr (a b : Int) : IntKind.wrap .i64 (IntKind.wrap .i64 a + b) = IntKind.wrap .i64 (a + b) := by
 simp only [IntKind.wrap, IntKind.bits, IntKind.signed]
 simp
 omega
theorem F0 (a b : Int) : IntKind.wrap .i64 (a + IntKind.wrap .i64 b) = IntKind.wrap .i64 (a + b) := by
 rw [Int.add_comm, Hr, Int.add_comm]
end Go.LS
set_option linter.unusedVariables false
set_option linter.unusedSimpArgs false
namespace Go.LS
inductive Val where
 | mk (kind int : Int) (text : List UInt8) (items : List Val) (names : List (List UInt8))
 deriving Inhabited
def Aa (ns : List (List UInt8)) : List (List PV) := ns.map fun x => [.str x]
mutual
def F1 : Val → List PV
 | .mk k n s is ns => [.int .i64 k, .int .i64 n, .str s, .sl (Ac is), .sl (Aa ns)]
def Ac : List Val → List (List PV)
 | [] => []
 | v :: r => F1 v :: Ac r
end
abbrev D4 : Val → LV
 | .mk k n s is ns => .agg [.p (.int .i64 k), .p (.int .i64 n), .p (.str s), .p (.sl (Ac is)), .p (.sl (Aa ns))]
theorem H6 : ∀ (l : List Val), Ac l = l.map F1
 | [] => rfl
 | v :: r => by rw [Ac, H6 r]; rfl
theorem Ap (l : List Val) : (Ac l).length = l.length := by rw [H6, List.length_map]
theorem Ao (l : List (List UInt8)) : (Aa l).length = l.length := by simp [Aa]
theorem Bq {l : List Val} {i : Nat} {v : Val} (h : l[i]? = some v) : (Ac l)[i]? = some (F1 v) := by rw [H6, List.getElem?_map, h]; rfl
theorem A3 {l : List (List UInt8)} {i : Nat} (h : i < l.length) : (Aa l)[i]? = some [.str (l.getD i [])] := by
 simp [Aa, h]
theorem Val.ind {P : Val → Prop} (h : ∀ k n s is ns, (∀ v ∈ is, P v) → P (.mk k n s is ns)) : ∀ v, P v
 | .mk k n s is ns => h k n s is ns fun v hv => Val.ind h v
def A5 (s : List UInt8) : Bool := !(s.contains 46) && decide (1 ≤ s.length) && decide (s.length ≤ 32) && !(s.headD 0 == 36)
def B7 : List (List UInt8) → Bool
 | [] => false
 | x :: r => r.contains x || B7 r
def Do (k n : Int) (s : List UInt8) (l : Nat) (ns : List (List UInt8)) : Bool :=
 if k == 1 then n == 0 && s == [] && decide (l = 0) && decide (ns.length = 0)
 else if k == 2 then (decide (0 ≤ n) && decide (n ≤ 1)) && s == [] && decide (l = 0) && decide (ns.length = 0)
 else if k == 3 then s == [] && decide (l = 0) && decide (ns.length = 0)
 else if k == 4 || k == 5 then n == 0 && decide (l = 0) && decide (ns.length = 0)
 else if k == 6 then n == 0 && s == [] && decide (ns.length = 0)
 else if k == 7 then n == 0 && s == [] && decide (ns.length = l) && !B7 ns
 else false
def B3 (ns : List (List UInt8)) : Bool := ns.all A5 && !B7 ns
mutual
def Bx : Val → Bool
 | .mk k n s is ns => Br is && ns.all A5 && Do k n s is.length ns
def Br : List Val → Bool
 | [] => true
 | v :: r => Bx v && Br r
end
mutual
def Ay : Val → Int
 | .mk _ _ _ is _ => Bs is + 1
def Bs : List Val → Int
 | [] => 0
 | v :: r => max (Ay v) (Bs r)
end
theorem M1 : ∀ (l : List Val), Br l = l.all Bx
 | [] => rfl
 | v :: r => by rw [Br, M1 r]; rfl
def zzN (x : Int) : Nat := if 0 ≤ x then (2 * x).toNat else (-(2 * x) - 1).toNat
def Cr (n : Nat) : Int := ((Ae n).length : Int)
def Cf (s : List UInt8) : Int := ((Ae s.length).length : Int) + s.length
mutual
def Bu : Val → Int
 | .mk k n s is ns => if k == 2 then 2 else if k == 3 then 1 + ((Ae (zzN n)).length : Int) else if k == 4 || k == 5 then 1 + Cf s
  else if k == 6 then 1 + Cr is.length + B9 is else if k == 7 then 1 + Cr is.length + B9 is + (ns.map Cf).sum else 1
def B9 : List Val → Int
 | [] => 0
 | v :: r => Bu v + B9 r
end
def Bk (v : Val) : Int := IntKind.wrap .i64 (Bu v)
mutual
def Cw : Int → Val → Int
 | d, .mk _ _ _ is ns => if d > 40 then 1048576 else C4 (IntKind.wrap .i64 (d + 1)) (IntKind.wrap .i64 (1 + (ns.length : Int))) is
def C4 : Int → Int → List Val → Int
 | _, m, [] => m
 | d, m, v :: r => if m < 65536 then C4 d (IntKind.wrap .i64 (m + Cw d v)) r else m
end
def Cn (v : Val) : Bool := decide (Cw 0 v > 3000)
mutual
def E5 : Val → Val → Bool
 | .mk k n s is ns, .mk k' n' s' is' ns' => (k == k') && (n == n') && (s == s') && Dz is is' && (ns == ns')
def Dz : List Val → List Val → Bool
 | [], [] => true
 | v :: r, v' :: r' => E5 v v' && Dz r r'
 | _, _ => false
end
def Xn (a b : Int) : Int := if a < b then -1 else if a > b then 1 else 0
def ordS (a b : List UInt8) : Int := if Op.bytesLess a b = true then -1 else if (!(Op.bytesLess a b || a == b)) = true then 1 else 0
mutual
def cmpV : Val → Val → Int
 | .mk k n s is ns, .mk k' n' s' is' ns' => if Xn k k' ≠ 0 then Xn k k' else if Xn n n' ≠ 0 then Xn n n' else if ordS s s' ≠ 0 then ordS s s' else
  match cmpL (k == 7) is is' ns ns' with
  | some c => c
  | none => Xn is.length is'.length
def cmpL : Bool → List Val → List Val → List (List UInt8) → List (List UInt8) → Option Int
 | d, v :: r, w :: q, ns, ms => if d = true ∧ ordS (ns.headD []) (ms.headD []) ≠ 0 then some (ordS (ns.headD []) (ms.headD [])) else
  if cmpV v w ≠ 0 then some (cmpV v w) else cmpL d r q ns.tail ms.tail
 | _, _, _, _, _ => none
end
def Av (v : Val) : Int := if Bx v = true then (if Ay v > 8 then 21 else if Bk v > 4096 then 22 else 0) else 20
mutual
def okV : Val → Prop
 | .mk k n s is ns => (-9223372036854775808 ≤ k ∧ k ≤ 9223372036854775807) ∧ (-9223372036854775808 ≤ n ∧ n ≤ 9223372036854775807) ∧ s.length ≤ 140737488351232 ∧ is.length * 80 ≤ 140737488355328 ∧ ns.length * 16 ≤ 140737488355328 ∧ (∀ x ∈ ns, x.length ≤ 140737488351232) ∧ okL is
def okL : List Val → Prop
 | [] => True
 | v :: r => okV v ∧ okL r
end
theorem L0 : ∀ {l : List Val}, okL l ↔ ∀ v ∈ l, okV v
 | [] => by simp [okL]
 | v :: r => by rw [okL, L0 (l := r)]; simp
theorem L1 : ∀ {es : List (List PV)}, (∀ e ∈ es, Bn [.str] e) → ∃ ns : List (List UInt8), es = Aa ns ∧ ∀ x ∈ ns, x.length ≤ 140737488351232
 | [], _ => ⟨[], rfl, by simp⟩
 | e :: r, h => by
  obtain ⟨ns, rfl, hn⟩ := L1 (es := r) (fun x hx => h x (List.mem_cons_of_mem _ hx))
  obtain ⟨_, _, rfl, ⟨s, rfl, hs⟩, rfl⟩ := h e (List.mem_cons_self ..)
  refine ⟨s :: ns, rfl, fun x hx => ?_⟩
  rcases List.mem_cons.1 hx with rfl | hx
  ·simp [reachBytes] at hs; omega
  ·exact hn x hx
theorem Sm {Q : List PV → Prop} (hQ : ∀ {es : List (List PV)}, (∀ e ∈ es, Q e) → ∃ l : List Val, es = Ac l ∧ okL l) {e : List PV}
  (h : Bn [.int .i64, .int .i64, .str, .pr Q 80, .sl [.str] 16] e) : ∃ v : Val, e = F1 v ∧ okV v := by
 obtain ⟨_, _, rfl, ⟨a, rfl, a0, a1⟩, _, _, rfl, ⟨b, rfl, b0, b1⟩, _, _, rfl, ⟨s, rfl, hs⟩, _, _, rfl, ⟨es, rfl, e1, -, e3⟩, _, _, rfl, ⟨ns, rfl, n1, -, n3⟩, rfl⟩ := h
 obtain ⟨l, rfl, hl⟩ := hQ e3
 obtain ⟨m, rfl, hm⟩ := L1 n3
 refine ⟨.mk a b s l m, rfl, ⟨⟨a0, a1⟩, ⟨b0, b1⟩, ?_, ?_, ?_, hm, hl⟩⟩
 ·simp [reachBytes] at hs; omega
 ·rw [Ap] at e1; simp [reachBytes] at e1; omega
 ·rw [Ao] at n1; simp [reachBytes] at n1; omega
theorem okVals {P : Program} {cut : List TypeId} {N : Nat} {T : TypeId} (hT : ∀ Q, tyT P cut Q N T = some [.int .i64, .int .i64, .str, .pr (Q T) 80, .sl [.str] 16]) :
  ∀ (k : Nat) {es : List (List PV)}, (∀ e ∈ es, RecOk P cut N k T e) → ∃ l : List Val, es = Ac l ∧ okL l := by
 intro k
 induction k with
 | zero =>
  intro es h
  cases es with
  | nil => exact ⟨[], rfl, trivial⟩
  | cons e r => exact (h e (List.mem_cons_self ..)).elim
 | succ k ih =>
  intro es
  induction es with
  | nil => exact fun _ => ⟨[], rfl, trivial⟩
  | cons e r ihr =>
   intro h
   obtain ⟨l, rfl, hl⟩ := ihr fun x hx => h x (List.mem_cons_of_mem _ hx)
   obtain ⟨ts, h1, h2⟩ := h e (List.mem_cons_self ..)
   rw [hT] at h1
   cases h1
   obtain ⟨v, rfl, hv⟩ := Sm (fun h => ih h) h2
   exact ⟨v :: l, rfl, hv, hl⟩
theorem Ps (a b : List Val) : Ac (a ++ b) = Ac a ++ Ac b := by simp [H6]
theorem Li (l : List (List UInt8)) : Gs 1 (Aa l) = true := by
 simp only [Gs, List.all_eq_true, Aa, List.mem_map]
 rintro _ ⟨v, _, rfl⟩
 rfl
theorem M2 {tg : Nat} {es : List Val} {k n : Int} {s : List UInt8} {is : List Val} {ns : List (List UInt8)} {st : List LObj} (hs : st[tg]? = some (.spare 5 (List.length (Ac es)))) (hb : (es.length + 1) * 80 ≤ 140737488355328) :
  Am A2 [] st (.append false 5 80 (.const (.sl (Ac es) tg (List.length (Ac es)))) (.const (.tight [[.int .i64 k, .int .i64 n, .str s, .sl (Ac is), .sl (Aa ns)]]))) =
   some (.sl (Ac (es ++ [.mk k n s is ns])) tg (List.length (Ac (es ++ [.mk k n s is ns]))), st.set tg (.spare 5 (List.length (Ac (es ++ [.mk k n s is ns]))))) := by
 have := Gl (size := 5) (bytes := 80) (tg := tg) (E := Ac es) (X := [[.int .i64 k, .int .i64 n, .str s, .sl (Ac is), .sl (Aa ns)]]) (st := st) (x := .tight [[.int .i64 k, .int .i64 n, .str s, .sl (Ac is), .sl (Aa ns)]]) hs rfl rfl
  (by rw [Ap]; exact hb) (by rw [Ap]; simp; omega) (by decide)
 rw [this, Ps]
 rfl
theorem M3 {k n : Int} {s : List UInt8} {is : List Val} {ns : List (List UInt8)} {st : List LObj} :
  Am A2 [] st (.append false 5 80 (.const (.tight [])) (.const (.tight [[.int .i64 k, .int .i64 n, .str s, .sl (Ac is), .sl (Aa ns)]]))) =
   some (.sl (Ac [.mk k n s is ns]) st.length (List.length (Ac [.mk k n s is ns])), st ++ [.spare 5 (List.length (Ac [.mk k n s is ns]))]) := by
 exact E4 (size := 5) (bytes := 80) (E := []) (X := [[.int .i64 k, .int .i64 n, .str s, .sl (Ac is), .sl (Aa ns)]]) (st := st) (x := .tight [[.int .i64 k, .int .i64 n, .str s, .sl (Ac is), .sl (Aa ns)]]) rfl rfl rfl (by simp) (by simp) (by simp) (by decide)
def B8 (ms : List (List UInt8)) : List (PV × LV) := ms.map fun x => (.str x, .p (.bool true))
theorem M4 (x : List UInt8) : ∀ (ms : List (List UInt8)), G4 (.str x) (B8 ms) = some (if ms.contains x then some (.p (.bool true)) else none)
 | [] => rfl
 | y :: r => by
  have ih := M4 x r
  rw [B8] at ih
  simp only [B8, List.map_cons, G4, J9]
  by_cases h : x = y
  ·subst h; simp
  ·have h2 : (x == y) = false := by simpa using h
   rw [h2]
   simp only [ih, List.contains_cons, h2, Bool.false_or]
theorem Ou (x : List UInt8) : ∀ (ms : List (List UInt8)), ms.contains x = false → Nr (.str x) (.p (.bool true)) (B8 ms) = some (B8 (ms ++ [x]))
 | [], _ => rfl
 | y :: r, h => by
  rw [List.contains_cons, Bool.or_eq_false_iff] at h
  have ih := Ou x r h.2
  rw [B8] at ih
  simp only [B8, List.map_cons, Nr, J9, h.1, ih, List.cons_append]
theorem M5 (ms : List (List UInt8)) : (LObj.map (B8 ms)).refs = [] := by
 simp only [LObj.refs, B8, List.flatMap_map]
 induction ms with
 | nil => rfl
 | cons x r ih => simp [LV.refs]
theorem U0 (r : Nat → Nat) (ms : List (List UInt8)) : LObj.ren r (.map (B8 ms)) = .map (B8 ms) := by
 simp [LObj.ren, B8, LV.ren]
theorem gc_seen {ms : List (List UInt8)} {vs : List LV} (h1 : vs.flatMap LV.refs = [0]) (h2 : vs.map (LV.ren fun q => [0].idxOf q) = vs) : gc 0 vs [.map (B8 ms)] = some (vs, [.map (B8 ms)]) := by
 have hr : Tj 0 [.map (B8 ms)] (vs.flatMap LV.refs) = [0] := by
  rw [h1]
  unfold Tj
  rw [show (100000 : Nat) = 99998 + 1 + 1 from rfl]
  simp [G5, M5]
 unfold gc
 simp only [hr]
 rw [h1, h2]
 simp [G6, M5, sub, U0]
theorem Ov {st : List LObj} {ms : List (List UInt8)} {x : List UInt8} {o : Nat} (h : st[o]? = some (.map (B8 ms))) :
  Am A2 [] st (.lookup .str (.p (.bool false)) false (.const (.mp o)) (.const (.p (.str x)))) = some (.p (.bool (ms.contains x)), st) := by
 simp only [Am, LX.ev, LV.toPV, KK.fits, Ti, h, M4]
 cases ms.contains x <;> rfl
theorem Xo {st : List LObj} {ms : List (List UInt8)} {x : List UInt8} {o : Nat} (h : st[o]? = some (.map (B8 ms))) (hx : ms.contains x = false) :
  Am A2 [] st (.mapUpdate .str (.const (.mp o)) (.const (.p (.str x))) (.const (.p (.bool true)))) = some (.tup [], st.set o (.map (B8 (ms ++ [x])))) := by
 simp only [Am, LX.ev, LV.toPV, KK.fits, h, Ou x ms hx]
 rfl
end Go.LS
set_option linter.unusedVariables false
namespace Go.LS
def u8 (x : Int) : UInt8 := UInt8.ofNat (Int.toNat (IntKind.wrap .u8 x))
mutual
def Az : Val → List UInt8
 | .mk k n s is ns => u8 k :: (if k == 1 then [] else if k == 2 then [u8 n] else if k == 3 then Ae (zzN n) else if k == 4 || k == 5 then Ae s.length ++ s
  else Ae is.length ++ Ci (k == 7) is ns)
def Ci : Bool → List Val → List (List UInt8) → List UInt8
 | _, [], _ => []
 | d, v :: r, ns => (if d then Ae (ns.headD []).length ++ ns.headD [] else []) ++ Az v ++ Ci d r ns.tail
end
theorem M9 (ns : List (List UInt8)) : ∀ (is : List Val) (L : List UInt8), is.foldl (fun b x => b ++ Az x) L = L ++ Ci false is ns := by
 intro is
 induction is generalizing ns with
 | nil => intro L; simp [Ci]
 | cons v r ih => intro L; rw [List.foldl_cons, ih ns.tail]; simp [Ci]
theorem Na : ∀ (is : List Val) (ns : List (List UInt8)) (L : List UInt8), ns.length = is.length →
  (is.zip ns).foldl (fun b x => b ++ (Ae x.2.length ++ x.2) ++ Az x.1) L = L ++ Ci true is ns := by
 intro is
 induction is with
 | nil => intro ns L h; simp [Ci]
 | cons v r ih =>
  intro ns L h
  cases ns with
  | nil => simp at h
  | cons x q =>
   rw [List.zip_cons_cons, List.foldl_cons, ih q _ (by simpa using h)]
   simp [Ci]
theorem U9 : ∀ (is : List Val) (ns : List (List UInt8)), (∀ v ∈ is, ((Az v).length : Int) = Bu v) → ((Ci false is ns).length : Int) = B9 is := by
 intro is
 induction is with
 | nil => intro ns h; simp [Ci, B9]
 | cons v r ih =>
  intro ns h
  have h1 := h v (by simp)
  have h2 := ih ns.tail (fun x hx => h x (by simp [hx]))
  simp only [Ci, B9, List.length_append, Bool.false_eq_true, if_false, List.length_nil]
  omega
theorem Va : ∀ (is : List Val) (ns : List (List UInt8)), ns.length = is.length → (∀ v ∈ is, ((Az v).length : Int) = Bu v) → ((Ci true is ns).length : Int) = B9 is + (ns.map Cf).sum := by
 intro is
 induction is with
 | nil => intro ns hn h; obtain rfl : ns = [] := List.eq_nil_of_length_eq_zero (by simpa using hn); simp [Ci, B9]
 | cons v r ih =>
  intro ns hn h
  cases ns with
  | nil => simp at hn
  | cons x q =>
   have h1 := h v (by simp)
   have h2 := ih q (by simpa using hn) (fun y hy => h y (by simp [hy]))
   simp only [Ci, B9, List.length_append, if_true, List.headD_cons, List.tail_cons, List.map_cons, List.sum_cons, Cf]
   omega
theorem Pv (a b : List (List UInt8)) : Aa (a ++ b) = Aa a ++ Aa b := by simp [Aa]
theorem Nb {tg : Nat} {es : List (List UInt8)} {s : List UInt8} {st : List LObj} (hs : st[tg]? = some (.spare 1 (List.length (Aa es)))) (hb : (es.length + 1) * 16 ≤ 140737488355328) :
  Am A2 [] st (.append false 1 16 (.const (.sl (Aa es) tg (List.length (Aa es)))) (.const (.tight [[.str s]]))) =
   some (.sl (Aa (es ++ [s])) tg (List.length (Aa (es ++ [s]))), st.set tg (.spare 1 (List.length (Aa (es ++ [s]))))) := by
 have := Gl (size := 1) (bytes := 16) (tg := tg) (E := Aa es) (X := [[.str s]]) (st := st) (x := .tight [[.str s]]) hs rfl rfl
  (by rw [Ao]; exact hb) (by rw [Ao]; simp; omega) (by decide)
 rw [this, Pv]
 rfl
theorem Nc {s : List UInt8} {st : List LObj} :
  Am A2 [] st (.append false 1 16 (.const (.tight [])) (.const (.tight [[.str s]]))) =
   some (.sl (Aa [s]) st.length (List.length (Aa [s])), st ++ [.spare 1 (List.length (Aa [s]))]) := by
 exact E4 (size := 1) (bytes := 16) (E := []) (X := [[.str s]]) (st := st) (x := .tight [[.str s]]) rfl rfl rfl (by simp) (by simp) (by simp) (by decide)
end Go.LS
set_option linter.unusedVariables false
namespace Go.LS
theorem Nd (n : Nat) (ms : List (List UInt8)) : (Aa ms).take n = Aa (ms.take n) := by simp [Aa, List.map_take]
theorem Vb (ms : List (List UInt8)) : ((Aa ms).all fun e => e.length == 1) = true := Li ms
theorem Pw {ms : List (List UInt8)} {n : Nat} {st : List LObj} (h : n ≤ ms.length) :
  Am A2 [] st (.slice 1 (.const (.p (.sl (Aa ms)))) none (some (.const (.p (.int .i64 (n : Int))))) none) = some (.p (.sl (Aa (ms.take n))), st) := by
 have hl := Ao ms
 have e1 : (Fm 1 st (.p (.sl (Aa ms))) none (some (.p (.int .i64 (n : Int)))) none) = some (.p (.sl (Aa (ms.take n)))) := by
  simp only [Fm, LV.asSl, Vb, if_true, Fl, bnd, Option.isSome_none, Bool.false_eq_true, false_and, if_false, Option.isNone_some, hl]
  rw [if_pos (by omega)]
  simp only [Int.toNat_natCast, List.drop_zero, Option.isNone_none, true_and]
  by_cases hn : n = ms.length ∧ 0 < ms.length
  ·rw [if_pos hn]
   rw [← Nd, hn.1, ← hl, List.take_length]
  ·rw [if_neg hn, Nd]
 simp only [Am, LX.ev, Option.map_none, Option.map_some, e1]
end Go.LS
set_option linter.unusedVariables false
namespace Go.LS
def Bi (ns : List (List UInt8)) : Bool := decide (1 ≤ ns.length) && decide (ns.length ≤ 8) && ns.all A5
structure OpS where
 k : Int
 p : List (List UInt8)
 v : Val
 t : List (List UInt8)
def Ky (o : OpS) : List PV := [.int .i64 o.k, .sl (Aa o.p)] ++ F1 o.v ++ [.sl (Aa o.t)]
def Ai (l : List OpS) : List (List PV) := l.map Ky
theorem At (l : List OpS) : (Ai l).length = l.length := by simp [Ai]
theorem A4 {l : List OpS} {i : Nat} {o : OpS} (h : l[i]? = some o) : (Ai l)[i]? = some (Ky o) := by simp [Ai, h]
def Bv : Val → Bool
 | .mk k n s is ns => k == 0 && n == 0 && s == [] && decide (is.length + ns.length = 0)
def J0 : Val → Int
 | .mk k _ _ _ _ => k
def Bt (o : OpS) : Bool :=
 Bi o.p && (if o.k == 2 then Bv o.v && decide (o.t.length = 0) else if o.k == 6 then Bv o.v && Bi o.t
  else if o.k == 3 then J0 o.v == 3 && Av o.v == 0 && decide (o.t.length = 0)
  else if o.k == 1 || o.k == 4 || o.k == 5 || o.k == 7 || o.k == 8 then Av o.v == 0 && decide (o.t.length = 0) else false)
def Be : List OpS → List (List (List UInt8))
 | [] => []
 | o :: r => if o.k == 6 then o.p :: o.t :: Be r else o.p :: Be r
def Dh (a b : List (List UInt8)) : Bool := List.isPrefixOf a b || List.isPrefixOf b a
def Dp : List (List (List UInt8)) → List (List (List UInt8)) → Bool
 | _, [] => false
 | seen, p :: r => seen.any (Dh p) || Dp (seen ++ [p]) r
end Go.LS
set_option linter.unusedVariables false
namespace Go.LS
theorem H7 {α : Type} {lp : Bp} {k : Nat} {L : List Bool × Bm} (T : Nat → List LV) (S : List LObj) (xs : List α) (p : α → Bool) {rT : C1 × List LV × List LObj} (rF : Nat → C1 × List LV × List LObj)
  (hF : ∀ i x, xs[i]? = some x → p x = false → LoopN lp k L (T i) S (rF i)) (hS : ∀ i x r, xs[i]? = some x → p x = true → LoopN lp k L (T (i + 1)) S r → LoopN lp k L (T i) S r)
  (hE : LoopN lp k L (T xs.length) S rT) : ∃ m, LoopN lp k L (T 0) S (if xs.all p = true then rT else rF m) := by
 have key : ∀ n i, n + i = xs.length → ∃ m, LoopN lp k L (T i) S (if (xs.drop i).all p = true then rT else rF m) := by
  intro n
  induction n with
  | zero =>
   intro i h
   obtain rfl : i = xs.length := by omega
   rw [List.drop_length]
   exact ⟨0, hE⟩
  | succ n ih =>
   intro i h
   have hx : xs[i]? = some (xs[i]'(by omega)) := List.getElem?_eq_getElem (by omega)
   rw [B6 hx, List.all_cons]
   cases hp : p (xs[i]'(by omega)) with
   | true =>
    obtain ⟨m, hm⟩ := ih (i + 1) (by omega)
    exact ⟨m, hS i _ _ hx hp (by simpa using hm)⟩
   | false => exact ⟨i, by simpa using hF i _ hx hp⟩
 have := key xs.length 0 (by omega)
 rwa [List.drop_zero] at this
theorem Gm {α : Type} (l : List α) (p : α → Bool) : l.any (fun x => !p x) = !l.all p := by
 induction l with
 | nil => rfl
 | cons x r ih => simp [ih]
end Go.LS
set_option linter.unusedVariables false
namespace Go.LS
abbrev Pt := List (List UInt8)
def Ah (l : List Pt) : List (List PV) := l.map fun p => [.sl (Aa p)]
theorem By (l : List Pt) : (Ah l).length = l.length := by simp [Ah]
theorem Bz {l : List Pt} {i : Nat} (h : i < l.length) : (Ah l)[i]? = some [.sl (Aa (l.getD i []))] := by simp [Ah, h]
theorem Px (a b : List Pt) : Ah (a ++ b) = Ah a ++ Ah b := by simp [Ah]
theorem Nf (n : Nat) (l : List Pt) : (Ah l).take n = Ah (l.take n) := by simp [Ah, List.map_take]
theorem Vf (l : List Pt) : ((Ah l).all fun e => e.length == 1) = true := by simp [Ah]
theorem Py (a b : List OpS) : Ai (a ++ b) = Ai a ++ Ai b := by simp [Ai]
theorem Lk {l : List Pt} {n : Nat} {st : List LObj} (h : n ≤ l.length) :
  Am A2 [] st (.slice 1 (.const (.p (.sl (Ah l)))) none (some (.const (.p (.int .i64 (n : Int))))) none) = some (.p (.sl (Ah (l.take n))), st) := by
 have hl := By l
 have e1 : (Fm 1 st (.p (.sl (Ah l))) none (some (.p (.int .i64 (n : Int)))) none) = some (.p (.sl (Ah (l.take n)))) := by
  simp only [Fm, LV.asSl, Vf, if_true, Fl, bnd, Option.isSome_none, Bool.false_eq_true, false_and, if_false, Option.isNone_some, hl]
  rw [if_pos (by omega)]
  simp only [Int.toNat_natCast, List.drop_zero, Option.isNone_none, true_and]
  by_cases hn : n = l.length ∧ 0 < l.length
  ·rw [if_pos hn]
   rw [← Nf, hn.1, ← hl, List.take_length]
  ·rw [if_neg hn, Nf]
 simp only [Am, LX.ev, Option.map_none, Option.map_some, e1]
theorem Dc {tg : Nat} {es : List Pt} {p : Pt} {st : List LObj} (hs : st[tg]? = some (.spare 1 (List.length (Ah es)))) (hb : es.length + 1 ≤ 5000000000000) :
  Am A2 [] st (.append false 1 24 (.const (.sl (Ah es) tg (List.length (Ah es)))) (.const (.tight [[.sl (Aa p)]]))) =
   some (.sl (Ah (es ++ [p])) tg (List.length (Ah (es ++ [p]))), st.set tg (.spare 1 (List.length (Ah (es ++ [p]))))) := by
 have := Gl (size := 1) (bytes := 24) (tg := tg) (E := Ah es) (X := [[.sl (Aa p)]]) (st := st) (x := .tight [[.sl (Aa p)]]) hs rfl rfl
  (by rw [By]; simp; omega) (by rw [By]; simp; omega) (by decide)
 rw [this, Px]
 rfl
theorem Gn {p : Pt} {st : List LObj} :
  Am A2 [] st (.append false 1 24 (.const (.tight [])) (.const (.tight [[.sl (Aa p)]]))) =
   some (.sl (Ah [p]) st.length (List.length (Ah [p])), st ++ [.spare 1 (List.length (Ah [p]))]) := by
 exact E4 (size := 1) (bytes := 24) (E := []) (X := [[.sl (Aa p)]]) (st := st) (x := .tight [[.sl (Aa p)]]) rfl rfl rfl (by simp) (by simp) (by simp) (by decide)
theorem Yk (l : List OpS) : Gs 8 (Ai l) = true := by
 induction l with
 | nil => rfl
 | cons o r ih =>
  obtain ⟨k, p, ⟨vk, vn, vs, vi, vns⟩, t⟩ := o
  simp only [Ai, List.map_cons, Gs, List.all_cons] at ih ⊢
  rw [ih]; rfl
theorem S1 {tg : Nat} {es : List OpS} {o : OpS} {st : List LObj} (hs : st[tg]? = some (.spare 8 (List.length (Ai es)))) (hb : es.length + 1 ≤ 500000000000) :
  Am A2 [] st (.append false 8 136 (.const (.sl (Ai es) tg (List.length (Ai es)))) (.const (.tight [Ky o]))) =
   some (.sl (Ai (es ++ [o])) tg (List.length (Ai (es ++ [o]))), st.set tg (.spare 8 (List.length (Ai (es ++ [o]))))) := by
 have := Gl (size := 8) (bytes := 136) (tg := tg) (E := Ai es) (X := [Ky o]) (st := st) (x := .tight [Ky o]) hs rfl (Yk [o])
  (by rw [At]; simp; omega) (by rw [At]; simp; omega) (by decide)
 rw [this, Py]
 rfl
theorem S2 {o : OpS} {st : List LObj} :
  Am A2 [] st (.append false 8 136 (.const (.tight [])) (.const (.tight [Ky o]))) =
   some (.sl (Ai [o]) st.length (List.length (Ai [o])), st ++ [.spare 8 (List.length (Ai [o]))]) := by
 exact E4 (size := 8) (bytes := 136) (E := []) (X := [Ky o]) (st := st) (x := .tight [Ky o]) rfl rfl (Yk [o]) (by simp) (by simp) (by simp) (by decide)
def Pz : Val → List (List UInt8) | .mk _ _ _ _ ns => ns
def Aw (rep : Bool) (d : Val) (ops : List OpS) : Int :=
 if rep then (if decide (0 < ops.length) || J0 d != 7 || Av d != 0 then 72 else if (Pz d).contains ([95, 105, 100] : List UInt8) then 70 else 0)
 else if !Bv d || decide (ops.length < 1) || decide (16 < ops.length) || !ops.all Bt then 72
 else if (Be ops).any (fun q => q.getD 0 [] == [95, 105, 100]) then 70 else if Dp [] (Be ops) then 71 else 0
def Cg (rep : Bool) (d : Val) (ops : List OpS) : Bool :=
 if rep then decide (ops.length = 0) && J0 d == 7 && Av d == 0 else Bv d && !decide (ops.length < 1) && !decide (16 < ops.length) && ops.all Bt
def A6 (p : Pt) : List UInt8 := Ae p.length ++ (p.map fun s => Ae s.length ++ s).flatten
def Cj (o : OpS) : List UInt8 := u8 o.k :: A6 o.p ++ (if o.k == 2 then [] else if o.k == 6 then A6 o.t else Az o.v)
def B5 (rep : Bool) (d : Val) (ops : List OpS) : List UInt8 :=
 if rep then 1 :: Az d else 0 :: Ae ops.length ++ (ops.map Cj).flatten
end Go.LS
set_option linter.unusedVariables false
namespace Go.LS
def okA (o : OpS) : Prop := (∀ x ∈ o.p, x.length ≤ 140737488351232) ∧ o.p.length ≤ 140737488355328 ∧ okV o.v ∧ (∀ x ∈ o.t, x.length ≤ 140737488351232) ∧ o.t.length ≤ 140737488355328
theorem okOp1 {Q : List PV → Prop} (hQ : ∀ {es : List (List PV)}, (∀ e ∈ es, Q e) → ∃ l : List Val, es = Ac l ∧ okL l) {e : List PV}
  (h : Bn [.int .i64, .sl [.str] 16, .int .i64, .int .i64, .str, .pr Q 80, .sl [.str] 16, .sl [.str] 16] e) : ∃ o : OpS, e = Ky o ∧ okA o := by
 obtain ⟨_, _, rfl, ⟨k, rfl, -, -⟩, _, _, rfl, ⟨ps, rfl, p1, -, p3⟩, _, _, rfl, ⟨a, rfl, a0⟩, _, _, rfl, ⟨b, rfl, b0⟩, _, _, rfl, ⟨s, rfl, hs⟩, _, _, rfl, ⟨es, rfl, e0⟩, _, _, rfl, ⟨ns, rfl, n0⟩, _, _, rfl, ⟨ts, rfl, t1, -, t3⟩, rfl⟩ := h
 obtain ⟨v, hv, hv2⟩ := Sm hQ (e := [.int .i64 a, .int .i64 b, .str s, .sl es, .sl ns]) ⟨_, _, rfl, ⟨a, rfl, a0⟩, _, _, rfl, ⟨b, rfl, b0⟩, _, _, rfl, ⟨s, rfl, hs⟩, _, _, rfl, ⟨es, rfl, e0⟩, _, _, rfl, ⟨ns, rfl, n0⟩, rfl⟩
 obtain ⟨p, rfl, hp⟩ := L1 p3
 obtain ⟨t, rfl, ht⟩ := L1 t3
 obtain ⟨k', n', s', is', ns'⟩ := v
 simp only [F1, List.cons.injEq, PV.int.injEq, PV.str.injEq, PV.sl.injEq, true_and, and_true] at hv
 obtain ⟨rfl, rfl, rfl, rfl, rfl⟩ := hv
 refine ⟨⟨k, p, .mk a b s is' ns', t⟩, rfl, hp, ?_, hv2, ht, ?_⟩
 ·rw [Ao] at p1; simp [reachBytes] at p1; simp only; omega
 ·rw [Ao] at t1; simp [reachBytes] at t1; simp only; omega
theorem okOps {Q : List PV → Prop} (hQ : ∀ {es : List (List PV)}, (∀ e ∈ es, Q e) → ∃ l : List Val, es = Ac l ∧ okL l) : ∀ {es : List (List PV)},
  (∀ e ∈ es, Bn [.int .i64, .sl [.str] 16, .int .i64, .int .i64, .str, .pr Q 80, .sl [.str] 16, .sl [.str] 16] e) → ∃ l : List OpS, es = Ai l ∧ ∀ o ∈ l, okA o
 | [], _ => ⟨[], rfl, by simp⟩
 | e :: r, h => by
  obtain ⟨l, rfl, hl⟩ := okOps hQ (es := r) (fun x hx => h x (List.mem_cons_of_mem _ hx))
  obtain ⟨o, rfl, ho⟩ := okOp1 hQ (h e (List.mem_cons_self ..))
  refine ⟨o :: l, rfl, fun x hx => ?_⟩
  rcases List.mem_cons.1 hx with rfl | hx
  ·exact ho
  ·exact hl x hx
theorem okSpecA {Q : List PV → Prop} (hQ : ∀ {es : List (List PV)}, (∀ e ∈ es, Q e) → ∃ l : List Val, es = Ac l ∧ okL l) {e : List PV}
  (h : Bn [.bool, .int .i64, .int .i64, .str, .pr Q 80, .sl [.str] 16, .sl [.int .i64, .sl [.str] 16, .int .i64, .int .i64, .str, .pr Q 80, .sl [.str] 16, .sl [.str] 16] 136] e) :
  ∃ (r : Bool) (v : Val) (l : List OpS), e = [.bool r] ++ F1 v ++ [.sl (Ai l)] ∧ okV v ∧ (∀ o ∈ l, okA o) ∧ l.length ≤ 1100000000000 := by
 obtain ⟨_, _, rfl, ⟨r, rfl⟩, _, _, rfl, ⟨a, rfl, a0⟩, _, _, rfl, ⟨b, rfl, b0⟩, _, _, rfl, ⟨s, rfl, hs⟩, _, _, rfl, ⟨es, rfl, e0⟩, _, _, rfl, ⟨ns, rfl, n0⟩, _, _, rfl, ⟨os, rfl, o1, -, o3⟩, rfl⟩ := h
 obtain ⟨v, hv, hv2⟩ := Sm hQ (e := [.int .i64 a, .int .i64 b, .str s, .sl es, .sl ns]) ⟨_, _, rfl, ⟨a, rfl, a0⟩, _, _, rfl, ⟨b, rfl, b0⟩, _, _, rfl, ⟨s, rfl, hs⟩, _, _, rfl, ⟨es, rfl, e0⟩, _, _, rfl, ⟨ns, rfl, n0⟩, rfl⟩
 obtain ⟨l, rfl, hl⟩ := okOps hQ o3
 refine ⟨r, v, l, ?_, hv2, hl, ?_⟩
 ·rw [← hv]; rfl
 ·rw [At] at o1; simp [reachBytes] at o1; omega
end Go.LS

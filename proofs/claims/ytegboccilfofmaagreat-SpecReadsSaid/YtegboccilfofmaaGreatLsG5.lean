/- A small semantics of loaded Go code that the kernel can run, part 5. -/
import Derived.Test.YtegboccilfofmaaGreatLsG4
import Derived.Lib.Bytealg
import Derived.Test.YtegboccilfofmaaGreatLsG1
import Derived.SizedLaws
import Derived.OpenShut
import Derived.Carry
import Derived.ChangeShapes
set_option linter.unusedVariables false
namespace Go.LS
def lpS (tab : List (Option LFn)) (weak wres : List Nat) (sm : List (Nat × (List LV → List LObj → Option (LV × List LObj)))) : Bi :=
 { fns := fun f => match tab[f]? with | some x => x | none => none, summ := fun f => (sm.find? fun x => x.1 == f).map (·.2), weak := fun f => weak.contains f, wres := fun f => wres.contains f }
theorem prS {P : Program} (tab : List (Option LFn)) (weak wres : List Nat) (sm : List (Nat × (List LV → List LObj → Option (LV × List LObj)))) (hs : ∀ x ∈ sm, Ow P x.1 x.2) (h : AllFR P 0 tab) : PR P (lpS tab weak wres sm) where
 fns f lf hf := by
  simp only [lpS] at hf
  split at hf
  ·rename_i x hx
   subst hf
   have := h.get f lf hx
   simpa using this
  ·cases hf
 summ f g h := by
  simp only [lpS, Option.map_eq_some_iff] at h
  obtain ⟨⟨f', g'⟩, h1, rfl⟩ := h
  have h2 := List.find?_some h1
  simp only [beq_iff_eq] at h2
  subst h2
  exact hs _ (List.mem_of_find?_eq_some h1)
def E3 (args : List LV) (st : List LObj) : Option (LV × List LObj) :=
 match args with
 | [.p (.str s), .p (.int .u8 c)] => some (.p (.int .i64 (Lib.indexByte s c.toNat.toUInt8)), st)
 | _ => none
theorem args2 {G : Gh} {p q : PV} {us : Array Value} (h : ArgsR G [.p p, .p q] us) : ∃ a b, us = #[a, b] ∧ VP G.F p a ∧ VP G.F q b := by
 have h1 := h.1
 simp only [List.length_cons, List.length_nil] at h1
 obtain ⟨l⟩ := us
 match l, h1 with
 | [a, b], _ =>
  have e1 := h.2 0 _ rfl
  have e2 := h.2 1 _ rfl
  refine ⟨a, b, rfl, ?_, ?_⟩
  ·cases e1; assumption
  ·cases e2; assumption
theorem Nm {P : Program} {f : FuncId} (hp : El P f = true)
  (h : ∀ (s : ByteArray) (c : Int) (w : World), Calls P f #[.string s, .int .u8 c] w fun e w' => e = .returned (.int .i64 (Lib.indexByte s.data.toList c.toNat.toUInt8)) ∧ w' = w) : Ow P f E3 := by
 refine ⟨hp, fun args st res st' hg G w us hw ha => ?_⟩
 unfold E3 at hg
 split at hg
 ·rename_i s c
  cases hg
  obtain ⟨a, b, rfl, h1, h2⟩ := args2 ha
  cases h1
  cases h2
  refine (h _ c w).mono ?_
  rintro e w' ⟨rfl, rfl⟩
  exact ⟨_, G, rfl, hw, .p (.int _ _), (Ext.refl _ _ _).to0⟩
 ·cases hg
end Go.LS
set_option linter.unusedVariables false
set_option linter.unusedSimpArgs false
namespace Go.LS
abbrev F4 (c c' : CallF) : Prop := ∀ f a s r, c f a s = some r → c' f a s = some r ∧ c'.weak f = c.weak f
theorem Jg {c c' : CallF} (h : F4 c c') {f : FuncId} {args : List LV} {st : List LObj} {r : LV × List LObj} (hr : Cs c f args st = some r) : Cs c' f args st = some r := by
 unfold Cs at hr ⊢
 simp only at hr ⊢
 split at hr
 ·rename_i hcl
  split at hr
  ·rename_i v st' hc
   obtain ⟨h1, h2⟩ := h _ _ _ _ hc
   rw [h2, if_pos hcl, h1]
   exact hr
  ·cases hr
 ·cases hr
theorem He {c c' : CallF} (h : F4 c c') {t : List LV} {st : List LObj} {op : LOp} {r : LV × List LObj} (hr : Am c t st op = some r) : Am c' t st op = some r := by
 cases op
 case call f args => simp only [Am] at hr ⊢; exact Jg h hr
 case callv f args =>
  simp only [Am] at hr ⊢
  split at hr
  ·exact Jg h hr
  ·cases hr
 all_goals exact hr
theorem Im {c c' : CallF} (h : F4 c c') {t : List LV} {st : List LObj} {o : Ct} {r : LV × List LObj} (hr : Ca c t st o = some r) : Ca c' t st o = some r := by
 unfold Ca at hr ⊢
 split at hr
 ·exact He h hr
 ·exact hr
 ·cases hr
theorem K2 {c c' : CallF} (h : F4 c c') : ∀ {l : List Ct} {t : List LV} {st : List LObj} {r : List LV × List LObj}, Fg c l t st = some r → Fg c' l t st = some r
 | [], t, st, r, hr => hr
 | o :: l, t, st, r, hr => by
  simp only [Fg] at hr ⊢
  split at hr
  ·rename_i v st' hs
   rw [Im h hs]
   exact K2 h hr
  ·cases hr
theorem K3 {c c' : CallF} (h : F4 c c') {st : List LObj} {held : List (DOp × List LV × LV)} (hr : Fh c st held = true) : Fh c' st held = true := by
 unfold Fh at hr ⊢
 rw [List.all_eq_true] at hr ⊢
 intro x hx
 have := hr x hx
 split at this
 ·rename_i v s hs
  rw [Im h hs]
  exact this
 ·cases this
theorem D3 {c c' : CallF} (h : F4 c c') : ∀ {l : List DOp} {held : List (DOp × List LV × LV)} {t : List LV} {st : List LObj} {r : List LV × List LObj}, B5 c l held t st = some r → B5 c' l held t st = some r
 | [], held, t, st, r, hr => hr
 | d :: l, held, t, st, r, hr => by
  simp only [B5] at hr ⊢
  split at hr
  ·cases hr
  ·rename_i v st' hs
   rw [Im h hs]
   simp only
   split at hr
   ·split at hr
    ·rename_i hp; rw [if_pos hp]; exact D3 h hr
    ·cases hr
   ·split at hr
    ·rename_i hp
     simp only [Bool.and_eq_true] at hp
     rw [if_pos (by simp [hp.1, K3 h hp.2])]; exact D3 h hr
    ·cases hr
   ·split at hr
    ·rename_i hp
     simp only [Bool.and_eq_true] at hp
     rw [if_pos (by simp only [Bool.and_eq_true]; exact ⟨hp.1, K3 h hp.2⟩)]; exact D3 h hr
    ·cases hr
theorem Kg (r : Cr × List LV × List LObj) : Dj (some r) (some r) = some r := by
 unfold Dj
 simp [LV.eqbs_refl, Ly]
theorem A9 {c c' : CallF} (h : F4 c c') {k : Nat} : ∀ {n m : Nat}, n ≤ m → ∀ {lc : Bg} {t : List LV} {st : List LObj} {r : Cr × List LV × List LObj}, A4 c k n lc t st = some r → A4 c' k m lc t st = some r
 | 0, m, _, lc, t, st, r, hr => by simp [A4] at hr
 | n + 1, 0, hnm, lc, t, st, r, hr => by omega
 | n + 1, m + 1, hnm, lc, t, st, r, hr => by
  have hle : n ≤ m := by omega
  cases lc with
  | skip => exact hr
  | exit id mask => exact hr
  | ret mask => exact hr
  | fail => simp [A4] at hr
  | region ops =>
   simp only [A4] at hr ⊢
   split at hr
   ·rename_i t' st' hs
    rw [K2 h hs]; exact hr
   ·cases hr
  | drawn ops =>
   simp only [A4] at hr ⊢
   split at hr
   ·rename_i t' st' hs
    rw [D3 h hs]; exact hr
   ·cases hr
  | seq a b =>
   have go : ∀ {la : Bg} {r}, Cu (A4 c k n la t st) (A4 c k n b) = some r → Cu (A4 c' k m la t st) (A4 c' k m b) = some r := by
    intro la r hr
    cases ha : A4 c k n la t st with
    | none => rw [ha] at hr; cases hr
    | some x =>
     rw [ha] at hr
     rw [A9 h hle ha]
     obtain ⟨o, t', st'⟩ := x
     cases o with
     | normal => exact A9 h hle hr
     | _ => exact hr
   simp only [A4] at hr ⊢
   exact go hr
  | Dj x a b d =>
   have go : ∀ {la : Bg} {r}, Cu (A4 c k n la t st) (A4 c k n d) = some r → Cu (A4 c' k m la t st) (A4 c' k m d) = some r := by
    intro la r hr
    cases ha : A4 c k n la t st with
    | none => rw [ha] at hr; cases hr
    | some x =>
     rw [ha] at hr
     rw [A9 h hle ha]
     obtain ⟨o, t', st'⟩ := x
     cases o with
     | normal => exact A9 h hle hr
     | _ => exact hr
   simp only [A4] at hr ⊢
   split at hr
   ·exact go hr
   ·exact go hr
   ·obtain ⟨e1, e2⟩ := Iv hr
    rw [go e1, go e2]
    exact Kg r
   ·cases hr
  | cond x a b =>
   simp only [A4] at hr ⊢
   split at hr
   ·exact A9 h hle hr
   ·exact A9 h hle hr
   ·obtain ⟨e1, e2⟩ := Iv hr
    rw [A9 h hle e1, A9 h hle e2]
    exact Kg r
   ·cases hr
  | block id mask a =>
   simp only [A4] at hr ⊢
   cases ha : A4 c k n a t st with
   | none => rw [ha] at hr; cases hr
   | some x =>
    rw [ha] at hr
    rw [A9 h hle ha]
    exact hr
  | loop mask a =>
   simp only [A4] at hr ⊢
   split at hr
   ·rename_i t0 st0 hg
    cases ha : A4 c k n a t0 st0 with
    | none => rw [ha] at hr; cases hr
    | some x =>
     rw [ha] at hr
     rw [A9 h hle ha]
     obtain ⟨o, t', st'⟩ := x
     cases o with
     | normal => exact A9 h hle hr
     | _ => exact hr
   ·cases hr
theorem B1 {lp : Bi} : ∀ {n m : Nat}, n ≤ m → F4 (Du lp n) (Du lp m)
 | 0, m, _ => fun f a s r h => by simp [Du] at h
 | n + 1, 0, hnm => by omega
 | n + 1, m + 1, hnm => by
  intro f a s r h
  refine ⟨?_, rfl⟩
  simp only [Du] at h ⊢
  split at h
  ·exact h
  ·split at h
   ·cases h
   ·rename_i lf hlf
    split at h
    ·cases h
    ·rename_i out t' st' hne hex
     rw [A9 (B1 (show n ≤ m by omega)) (show n ≤ m by omega) hex]
     simp only
     cases out with
     | exit i => exact (hne i rfl).elim
     | _ => exact h
    ·cases h
def Runs (lp : Bi) (f : FuncId) (args : List LV) (st : List LObj) (r : LV × List LObj) : Prop := ∃ n, Du lp n f args st = some r
def Exec (lp : Bi) (k : Nat) (c : Bg) (t : List LV) (st : List LObj) (r : Cr × List LV × List LObj) : Prop := ∃ n, A4 (Du lp n) k n c t st = some r
theorem Exec.at {lp : Bi} {k : Nat} {c : Bg} {t : List LV} {st : List LObj} {r : Cr × List LV × List LObj} (h : Exec lp k c t st r) : ∃ n, ∀ m, n ≤ m → A4 (Du lp m) k m c t st = some r :=
 let ⟨n, hn⟩ := h
 ⟨n, fun m hm => A9 (B1 hm) hm hn⟩
theorem Runs.at {lp : Bi} {f : FuncId} {args : List LV} {st : List LObj} {r : LV × List LObj} (h : Runs lp f args st r) : ∃ n, ∀ m, n ≤ m → Du lp m f args st = some r :=
 let ⟨n, hn⟩ := h
 ⟨n, fun m hm => (B1 hm _ _ _ _ hn).1⟩
end Go.LS
set_option linter.unusedVariables false
set_option linter.unusedSimpArgs false
namespace Go.LS
inductive Orc where
 | b (c : Bool)
 | op (v : LV) (st : List LObj)
 | call (v : LV) (st : List LObj)
 | lp (out : Cr) (t : List LV) (st : List LObj)
abbrev Os := List (Nat × Orc)
def tick : Os → Option Orc × Os
 | (0, o) :: r => (some o, r)
 | (n + 1, o) :: r => (none, (n, o) :: r)
 | [] => (none, [])
def LX.inst (t : List LV) (x : LX) : LX := .const (x.ev t)
def A3 : CallF := ⟨fun _ _ _ => none, fun _ => false⟩
def LOp.inst (t : List LV) : LOp → LOp
 | .mv x => .mv (x.inst t)
 | .pick c a b => .pick (c.inst t) (a.inst t) (b.inst t)
 | .alloc z => .alloc z
 | .box x => .box (x.inst t)
 | .build z ps => .build z (ps.map fun p => (p.1, p.2.1, p.2.2.inst t))
 | .mkrow r s l z ps => .mkrow r s l z (ps.map fun p => (p.1, p.2.inst t))
 | .load a n x => .load a n (x.inst t)
 | .store n x v => .store n (x.inst t) (v.inst t)
 | .nilChk x => .nilChk (x.inst t)
 | .bin o x y => .bin o (x.inst t) (y.inst t)
 | .beq o x y => .beq o (x.inst t) (y.inst t)
 | .peq o x y => .peq o (x.inst t) (y.inst t)
 | .nileq o k x => .nileq o k (x.inst t)
 | .un o x => .un o (x.inst t)
 | .cv k x => .cv k (x.inst t)
 | .fn f cs => .fn f (cs.map (LX.inst t))
 | .fnm f fs cs => .fnm f (fs.map (LX.inst t)) (cs.map (LX.inst t))
 | .clearS z x => .clearS z (x.inst t)
 | .appendR n m a b => .appendR n m (a.inst t) (b.inst t)
 | .iface ty x => .iface ty (x.inst t)
 | .mkmap => .mkmap
 | .mkslice a b z l c => .mkslice a b z (l.inst t) (c.inst t)
 | .sslice x a b c => .sslice (x.inst t) (a.map (LX.inst t)) (b.map (LX.inst t)) (c.map (LX.inst t))
 | .slice n x a b c => .slice n (x.inst t) (a.map (LX.inst t)) (b.map (LX.inst t)) (c.map (LX.inst t))
 | .fieldAddr n x => .fieldAddr n (x.inst t)
 | .field g n m x => .field g n m (x.inst t)
 | .indexAddr n x i => .indexAddr n (x.inst t) (i.inst t)
 | .arrAddr n m x i => .arrAddr n m (x.inst t) (i.inst t)
 | .index x i => .index (x.inst t) (i.inst t)
 | .arrIndex g n m x i => .arrIndex g n m (x.inst t) (i.inst t)
 | .lookup k z o x i => .lookup k z o (x.inst t) (i.inst t)
 | .mapUpdate k a b c => .mapUpdate k (a.inst t) (b.inst t) (c.inst t)
 | .delete k a b => .delete k (a.inst t) (b.inst t)
 | .range x => .range (x.inst t)
 | .next x => .next (x.inst t)
 | .extract x i => .extract (x.inst t) i
 | .call f as => .call f (as.map (LX.inst t))
 | .callv f as => .callv (f.inst t) (as.map (LX.inst t))
 | .append s n m a b => .append s n m (a.inst t) (b.inst t)
 | .grow n m a b => .grow n m (a.inst t) (b.inst t)
 | .len x => .len (x.inst t)
 | .slen x => .slen (x.inst t)
 | .mlen x => .mlen (x.inst t)
 | .const v => .const v
 | .fail => .fail
 | .seq n l x y => .seq n l (x.inst t) (y.inst t)
 | .retire x => .retire (x.inst t)
 | .cap x => .cap (x.inst t)
 | .mx x y => .mx (x.inst t) (y.inst t)
 | .mn x y => .mn (x.inst t) (y.inst t)
theorem O0 (t s : List LV) (x : LX) : (x.inst t).ev s = x.ev t := rfl
theorem W8 (t s : List LV) (xs : List LX) : (xs.map (LX.inst t)).map (LX.ev s) = xs.map (LX.ev t) := by rw [List.map_map]; rfl
theorem W9 (t s : List LV) (xs : Option LX) : (xs.map (LX.inst t)).map (LX.ev s) = xs.map (LX.ev t) := by cases xs <;> rfl
theorem Mm (t s : List LV) : ∀ (ps : List (Nat × Nat × LX)), D0 s (ps.map fun p => (p.1, p.2.1, p.2.2.inst t)) = D0 t ps
 | [] => rfl
 | (a, b, x) :: r => by simp only [List.map_cons, D0, O0, Mm t s r]
theorem Qo (t s : List LV) : ∀ (ps : List (Nat × LX)), Gr s (ps.map fun p => (p.1, p.2.inst t)) = Gr t ps
 | [] => rfl
 | (a, x) :: r => by simp only [List.map_cons, Gr, O0, Qo t s r]
theorem Qp (call : CallF) (t s : List LV) (st : List LObj) (op : LOp) : Am call s st (op.inst t) = Am call t st op := by
 cases op <;> simp only [LOp.inst, Am, O0, W8, W9, Mm, Qo]
abbrev OpIs (t : List LV) (st : List LObj) (op : LOp) (v : LV) (st' : List LObj) : Prop := Am A3 [] st (op.inst t) = some (v, st')
theorem N2 (c : CallF) : F4 A3 c := fun f a s r h => by simp [A3] at h
theorem OpIs.step {t : List LV} {st st' : List LObj} {op : LOp} {v : LV} (h : OpIs t st op v st') (c : CallF) : Am c t st op = some (v, st') :=
 He (N2 c) (by rw [← Qp A3 t []]; exact h)
def Tq (lp : Bi) (f : FuncId) (args : List LV) (st : List LObj) (r : LV) (st1 : List LObj) : Option (LV × List LObj × Prop) :=
 let args := wk (lp.weak f) args
 let ids := Gt st 100000 (args.flatMap LV.refs) []
 if Gu st ids && (args.flatMap LV.refs).all (ids.contains ·) && decide ids.Nodup then
  if ids.length ≤ st1.length then
   let b := Jz ids st.length
   some (r.ren b, Dc st ids ((st1.take ids.length).map (LObj.ren b)) ++ (st1.drop ids.length).map (LObj.ren b),
    Runs lp f (args.map (LV.ren fun q => ids.idxOf q)) (sub st ids) (r, st1))
  else none
 else none
theorem K4 {lp : Bi} {f : FuncId} {args : List LV} {st st1 st' : List LObj} {r v : LV} {p : Prop} (h : Tq lp f args st r st1 = some (v, st', p)) (hp : p) :
  ∃ n, ∀ m, n ≤ m → Cs (Du lp m) f args st = some (v, st') := by
 unfold Tq at h
 simp only at h
 split at h
 ·rename_i hc
  split at h
  ·rename_i hl
   cases h
   obtain ⟨n, hn⟩ := Runs.at hp
   refine ⟨n, fun m hm => ?_⟩
   unfold Cs
   simp only
   rw [Uk, if_pos hc, hn m hm]
   simp only
   rw [if_pos hl]
  ·cases h
 ·cases h
def gdO (t : List LV) (g : Option (Nat × Bool)) (os : Os) : Option (Bool × List Prop × Os) :=
 match g with
 | none => some (true, [], os)
 | some (j, want) => match tick os with
  | (some (.b c), os') => some (c == want, [t.getD j .und = .p (.bool c)], os')
  | (none, os') => match gd t (some (j, want)) with
   | some b => some (b, [], os')
   | none => none
  | _ => none
abbrev Kh (ps : List Prop) : Prop := ∀ p ∈ ps, p
theorem N3 {t : List LV} {g : Option (Nat × Bool)} {os os' : Os} {b : Bool} {ps : List Prop} (h : gdO t g os = some (b, ps, os')) (hp : Kh ps) : gd t g = some b := by
 unfold gdO at h
 split at h
 ·cases h; rfl
 ·split at h
  ·cases h
   have := hp _ (List.mem_singleton.2 rfl)
   simp only [gd, this]
  ·split at h
   ·cases h; assumption
   ·cases h
  ·cases h
def Xa (lp : Bi) (t : List LV) (st : List LObj) (op : LOp) (os : Os) : Option (LV × List LObj × List Prop × Os) :=
 match tick os with
 | (none, os') => match Am A3 t st op with
  | some (v, st') => some (v, st', [], os')
  | none => none
 | (some (.op v st'), os') => some (v, st', [OpIs t st op v st'], os')
 | (some (.call r st1), os') => match op with
  | .call f args => match Tq lp f (args.map (LX.ev t)) st r st1 with
   | some (v, st', p) => some (v, st', [p], os')
   | none => none
  | .callv f args => match f.ev t with
   | .fn (.func g) first captured => match Tq lp g (first ++ args.map (LX.ev t) ++ captured) st r st1 with
    | some (v, st', p) => some (v, st', [p], os')
    | none => none
   | _ => none
  | _ => none
 | (some (.b c), os') => match op with
  | .pick x a b => some (if c then a.ev t else b.ev t, st, [x.ev t = .p (.bool c)], os')
  | _ => none
 | _ => none
theorem Qq {lp : Bi} {t : List LV} {st st' : List LObj} {op : LOp} {os os' : Os} {v : LV} {ps : List Prop} (h : Xa lp t st op os = some (v, st', ps, os')) (hp : Kh ps) :
  ∃ n, ∀ m, n ≤ m → Am (Du lp m) t st op = some (v, st') := by
 unfold Xa at h
 split at h
 ·split at h <;> cases h
  exact ⟨0, fun m _ => He (N2 _) ‹_›⟩
 ·cases h
  have := hp _ (List.mem_singleton.2 rfl)
  exact ⟨0, fun m _ => OpIs.step this _⟩
 ·split at h
  ·split at h <;> cases h
   exact K4 ‹_› (hp _ (List.mem_singleton.2 rfl))
  ·split at h
   ·rename_i hf
    split at h <;> cases h
    obtain ⟨n, hn⟩ := K4 ‹_› (hp _ (List.mem_singleton.2 rfl))
    exact ⟨n, fun m hm => by simp only [Am, hf]; exact hn m hm⟩
   ·cases h
  ·cases h
 ·split at h
  ·cases h
   have := hp _ (List.mem_singleton.2 rfl)
   exact ⟨0, fun m _ => by simp only [Am, this]⟩
  ·cases h
 ·cases h
def Tr (lp : Bi) (t : List LV) (st : List LObj) (o : Ct) (os : Os) : Option (LV × List LObj × List Prop × Os × Bool) :=
 match gdO t o.guard os with
 | some (true, ps, os1) => match Xa lp t st o.op os1 with
  | some (v, st', qs, os2) => some (v, st', ps ++ qs, os2, true)
  | none => none
 | some (false, ps, os1) => some (.tup [], st, ps, os1, false)
 | none => none
theorem Cj {ps qs : List Prop} (h : Kh (ps ++ qs)) : Kh ps ∧ Kh qs := ⟨fun p hp => h p (List.mem_append_left _ hp), fun p hp => h p (List.mem_append_right _ hp)⟩
theorem Fd {lp : Bi} {t : List LV} {st st' : List LObj} {o : Ct} {os os' : Os} {v : LV} {ps : List Prop} {d : Bool} (h : Tr lp t st o os = some (v, st', ps, os', d)) (hp : Kh ps) :
  gd t o.guard = some d ∧ ∃ n, ∀ m, n ≤ m → Ca (Du lp m) t st o = some (v, st') := by
 unfold Tr at h
 split at h
 ·rename_i ps1 os1 hg
  split at h
  ·rename_i v' st1 qs os2 hs
   cases h
   obtain ⟨h1, h2⟩ := Cj hp
   obtain ⟨n, hn⟩ := Qq hs h2
   have := N3 hg h1
   exact ⟨this, n, fun m hm => by unfold Ca; rw [this]; exact hn m hm⟩
  ·cases h
 ·rename_i ps1 os1 hg
  cases h
  have := N3 hg hp
  exact ⟨this, 0, fun m _ => by unfold Ca; rw [this]⟩
 ·cases h
def Xb (lp : Bi) : List Ct → List LV → List LObj → Os → Option (List LV × List LObj × List Prop × Os)
 | [], t, st, os => some (t, st, [], os)
 | o :: r, t, st, os => match Tr lp t st o os with
  | some (v, st', ps, os', _) => match Xb lp r (Gx t o.dst v) st' os' with
   | some (t', st'', qs, os'') => some (t', st'', ps ++ qs, os'')
   | none => none
  | none => none
theorem Mn {lp : Bi} : ∀ {l : List Ct} {t t' : List LV} {st st' : List LObj} {os os' : Os} {ps : List Prop}, Xb lp l t st os = some (t', st', ps, os') → Kh ps →
  ∃ n, ∀ m, n ≤ m → Fg (Du lp m) l t st = some (t', st')
 | [], t, t', st, st', os, os', ps, h, _ => by simp only [Xb] at h; cases h; exact ⟨0, fun m _ => rfl⟩
 | o :: r, t, t', st, st', os, os', ps, h, hp => by
  simp only [Xb] at h
  split at h
  ·rename_i v st1 ps1 os1 d hs
   split at h
   ·rename_i t2 st2 qs os2 hr
    cases h
    obtain ⟨h1, h2⟩ := Cj hp
    obtain ⟨_, n, hn⟩ := Fd hs h1
    obtain ⟨k, hk⟩ := Mn hr h2
    exact ⟨max n k, fun m hm => by simp only [Fg, hn m (by omega)]; exact hk m (by omega)⟩
   ·cases h
  ·cases h
def Ts (st : List LObj) (held : List (DOp × List LV × LV)) : List Prop := held.map fun x => OpIs x.2.1 st x.1.op.op x.2.2 st
theorem Qr {lp : Bi} {m : Nat} {st : List LObj} {held : List (DOp × List LV × LV)} (h : Kh (Ts st held)) (hg : ∀ x ∈ held, gd x.2.1 x.1.op.guard = some true) : Fh (Du lp m) st held = true := by
 unfold Fh
 rw [List.all_eq_true]
 intro x hx
 have := h _ (List.mem_map.2 ⟨x, hx, rfl⟩)
 unfold Ca
 rw [hg x hx]
 simp only [OpIs.step this, LV.eqb_refl]
def In (lp : Bi) : List DOp → List (DOp × List LV × LV) → List LV → List LObj → Os → Option (List LV × List LObj × List Prop × Os)
 | [], _, t, st, os => some (t, st, [], os)
 | d :: r, held, t, st, os => match Tr lp t st d.op os with
  | none => none
  | some (v, st', ps, os', done) =>
   match d.cls with
   | .h => if Gk d.op.op v then
     match In lp r (if P2 t d.op.op || !done then held else (d, t, v) :: held) (Gx t d.op.dst v) st' os' with
     | some (t', st'', qs, os'') => some (t', st'', ps ++ qs, os'')
     | none => none
    else none
   | .a => if Lz st st' then
     match In lp r held (Gx t d.op.dst v) st' os' with
     | some (t', st'', qs, os'') => some (t', st'', ps ++ Ts st' held ++ qs, os'')
     | none => none
    else none
   | .c => if decide (st.length ≤ st'.length) then
     match In lp r (held.filter fun x => !d.must.contains x.1.idx) (Gx t d.op.dst v) st' os' with
     | some (t', st'', qs, os'') => some (t', st'', ps ++ Ts st' (held.filter fun x => !d.must.contains x.1.idx) ++ qs, os'')
     | none => none
    else none
abbrev O1 (held heldO : List (DOp × List LV × LV)) : Prop := ∀ x ∈ held, x ∈ heldO ∨ (gd x.2.1 x.1.op.guard = some false ∧ x.2.2 = .tup [])
theorem Mo {lp : Bi} {m : Nat} {st : List LObj} {held heldO : List (DOp × List LV × LV)} (hs : O1 held heldO) (h : Kh (Ts st heldO)) (hg : ∀ x ∈ heldO, gd x.2.1 x.1.op.guard = some true) :
  Fh (Du lp m) st held = true := by
 unfold Fh
 rw [List.all_eq_true]
 intro x hx
 rcases hs x hx with hx | ⟨h1, h2⟩
 ·have := List.all_eq_true.1 (Qr (lp := lp) (m := m) h hg) x hx
  exact this
 ·unfold Ca
  rw [h1, h2]
  rfl
theorem En {lp : Bi} : ∀ {l : List DOp} {heldO : List (DOp × List LV × LV)} {t t' : List LV} {st st' : List LObj} {os os' : Os} {ps : List Prop}, In lp l heldO t st os = some (t', st', ps, os') → Kh ps →
  (∀ x ∈ heldO, gd x.2.1 x.1.op.guard = some true) → ∃ n, ∀ m, n ≤ m → ∀ held, O1 held heldO → B5 (Du lp m) l held t st = some (t', st')
 | [], heldO, t, t', st, st', os, os', ps, h, _, _ => by simp only [In] at h; cases h; exact ⟨0, fun m _ held _ => rfl⟩
 | d :: r, heldO, t, t', st, st', os, os', ps, h, hp, hg => by
  simp only [In] at h
  split at h
  ·cases h
  ·rename_i v st1 ps1 os1 done hs
   split at h
   ·rename_i hc
    split at h
    ·rename_i hpv
     split at h
     ·rename_i t2 st2 qs os2 hr
      cases h
      obtain ⟨h1, h2⟩ := Cj hp
      obtain ⟨hgd, n, hn⟩ := Fd hs h1
      obtain ⟨k, hk⟩ := En hr h2 (fun x hx => by
       split at hx
       ·exact hg x hx
       ·rename_i hst
        rcases List.mem_cons.1 hx with rfl | hx
        ·have : done = true := by cases done <;> simp_all
         rw [this] at hgd; exact hgd
        ·exact hg x hx)
      refine ⟨max n k, fun m hm held hsub => ?_⟩
      simp only [B5, hn m (by omega), hc]
      rw [if_pos hpv]
      refine hk m (by omega) _ (fun x hx => ?_)
      split at hx
      ·rename_i hst
       rw [if_pos (by simp [hst])]
       exact hsub x hx
      ·rename_i hst
       rcases List.mem_cons.1 hx with rfl | hx
       ·cases hdn : done with
        | true => rw [if_neg (by simp [hst])]; exact .inl (by simp)
        | false =>
         rw [hdn] at hgd
         refine .inr ⟨hgd, ?_⟩
         have := hn n (Nat.le_refl _)
         unfold Ca at this
         rw [hgd] at this
         cases this; rfl
       ·rcases hsub x hx with h | h
        ·refine .inl ?_
         split
         ·exact h
         ·exact List.mem_cons_of_mem _ h
        ·exact .inr h
     ·cases h
    ·cases h
   ·rename_i hc
    split at h
    ·rename_i hnew
     split at h
     ·rename_i t2 st2 qs os2 hr
      cases h
      obtain ⟨h12, h3⟩ := Cj hp
      obtain ⟨h1, h2⟩ := Cj h12
      obtain ⟨hgd, n, hn⟩ := Fd hs h1
      obtain ⟨k, hk⟩ := En hr h3 hg
      refine ⟨max n k, fun m hm held hsub => ?_⟩
      simp only [B5, hn m (by omega), hc]
      rw [if_pos (by simp only [Bool.and_eq_true]; exact ⟨hnew, Mo hsub h2 hg⟩)]
      exact hk m (by omega) _ hsub
     ·cases h
    ·cases h
   ·rename_i hc
    split at h
    ·rename_i hlen
     split at h
     ·rename_i t2 st2 qs os2 hr
      cases h
      obtain ⟨h12, h3⟩ := Cj hp
      obtain ⟨h1, h2⟩ := Cj h12
      obtain ⟨hgd, n, hn⟩ := Fd hs h1
      have hg' : ∀ x ∈ heldO.filter (fun x => !d.must.contains x.1.idx), gd x.2.1 x.1.op.guard = some true := fun x hx => hg x (List.mem_filter.1 hx).1
      obtain ⟨k, hk⟩ := En hr h3 hg'
      refine ⟨max n k, fun m hm held hsub => ?_⟩
      have hsub' : O1 (held.filter fun x => !d.must.contains x.1.idx) (heldO.filter fun x => !d.must.contains x.1.idx) := by
       intro x hx
       obtain ⟨a, b⟩ := List.mem_filter.1 hx
       rcases hsub x a with h | h
       ·exact .inl (List.mem_filter.2 ⟨h, b⟩)
       ·exact .inr h
      simp only [B5, hn m (by omega), hc]
      rw [if_pos (by simp only [Bool.and_eq_true]; exact ⟨hlen, Mo hsub' h2 hg'⟩)]
      exact hk m (by omega) _ hsub'
     ·cases h
    ·cases h
def LoopAt (lp : Bi) (k : Nat) (mask : List Bool) (c : Bg) (t : List LV) (st : List LObj) (r : Cr × List LV × List LObj) : Prop :=
 ∃ n, (match A4 (Du lp n) k n c t st with
  | some (.normal, t', st') => A4 (Du lp n) k n (.loop mask c) t' st'
  | r => r) = some r
def Ck (lp : Bi) (k : Nat) : Nat → Bg → List LV → List LObj → Os → Option (Cr × List LV × List LObj × List Prop × Os)
 | 0, _, _, _, _ => none
 | n + 1, c, t, st, os => match c with
  | .skip => some (.normal, t, st, [], os)
  | .region ops => match Xb lp ops t st os with
   | some (t', st', ps, os') => some (.normal, t', st', ps, os')
   | none => none
  | .drawn ops => match In lp ops [] t st os with
   | some (t', st', ps, os') => some (.normal, t', st', ps, os')
   | none => none
  | .seq a b => match Ck lp k n a t st os with
   | some (.normal, t', st', ps, os') => (match Ck lp k n b t' st' os' with
    | some (o, t'', st'', qs, os'') => some (o, t'', st'', ps ++ qs, os'')
    | none => none)
   | r => r
  | .cond x a b => match tick os with
   | (some (.b c), os') => (match Ck lp k n (if c then a else b) t st os' with
    | some (o, t', st', ps, os'') => some (o, t', st', (x.ev t = .p (.bool c)) :: ps, os'')
    | none => none)
   | (none, os') => (match x.ev t with
    | .p (.bool true) => Ck lp k n a t st os'
    | .p (.bool false) => Ck lp k n b t st os'
    | _ => none)
   | _ => none
  | .Dj x a b c => Ck lp k n (.seq (.cond x a b) c) t st os
  | .block id mask c => match Ck lp k n c t st os with
   | some (.exit i, t', st', ps, os') => if i = id then some (.normal, kill mask t', st', ps, os') else some (.exit i, t', st', ps, os')
   | some (.normal, t', st', ps, os') => some (.normal, kill mask t', st', ps, os')
   | r => r
  | .loop mask c => match tick os with
   | (some (.lp out t' st'), os') => (match gc k (kill mask t) st with
    | some (t0, st0) => some (out, t', st', [LoopAt lp k mask c t0 st0 (out, t', st')], os')
    | none => none)
   | _ => none
  | .exit id mask => some (.exit id, kill mask t, st, [], os)
  | .ret mask => some (.ret, kill mask t, st, [], os)
  | .fail => none
theorem Ut {c : CallF} {k m : Nat} {x : LX} {a b d : Bg} {t : List LV} {st : List LObj} {r : Cr × List LV × List LObj} (h : A4 c k m (.seq (.cond x a b) d) t st = some r) : A4 c k (m + 1) (.Dj x a b d) t st = some r := by
 cases m with
 | zero => simp [A4] at h
 | succ m =>
  cases m with
  | zero => simp [A4, Cu] at h
  | succ m =>
   show (match x.ev t with
    | .p (.bool true) => Cu (A4 c k (m + 1 + 1) a t st) (A4 c k (m + 1 + 1) d)
    | .p (.bool false) => Cu (A4 c k (m + 1 + 1) b t st) (A4 c k (m + 1 + 1) d)
    | .anyb => Dj (Cu (A4 c k (m + 1 + 1) a t st) (A4 c k (m + 1 + 1) d)) (Cu (A4 c k (m + 1 + 1) b t st) (A4 c k (m + 1 + 1) d))
    | _ => none) = some r
   replace h : Cu (match x.ev t with
    | .p (.bool true) => A4 c k m a t st
    | .p (.bool false) => A4 c k m b t st
    | .anyb => Dj (A4 c k m a t st) (A4 c k m b t st)
    | _ => none) (A4 c k (m + 1) d) = some r := h
   have up : ∀ {lz : Bg} {y}, A4 c k m lz t st = some y → Cu (some y) (A4 c k (m + 1) d) = some r → Cu (A4 c k (m + 1 + 1) lz t st) (A4 c k (m + 1 + 1) d) = some r := by
    intro lz y h1 h2
    rw [A9 (fun _ _ _ _ h => ⟨h, rfl⟩) (show m ≤ m + 1 + 1 by omega) h1]
    obtain ⟨o, t', st'⟩ := y
    cases o with
    | normal => exact A9 (fun _ _ _ _ h => ⟨h, rfl⟩) (show m + 1 ≤ m + 1 + 1 by omega) h2
    | _ => exact h2
   split at h
   ·rename_i hx
    cases he : A4 c k m a t st with
    | none => rw [he] at h; cases h
    | some y => rw [he] at h; (try simp only [hx]); exact up he h
   ·rename_i hx
    cases he : A4 c k m b t st with
    | none => rw [he] at h; cases h
    | some y => rw [he] at h; (try simp only [hx]); exact up he h
   ·rename_i hx
    cases hb : Dj (A4 c k m a t st) (A4 c k m b t st) with
    | none => rw [hb] at h; cases h
    | some y =>
     rw [hb] at h
     obtain ⟨e1, e2⟩ := Iv hb
     try simp only [hx]
     rw [up e1 h, up e2 h]
     exact Kg r
   ·cases h
theorem B4 {lp : Bi} {k : Nat} : ∀ {n : Nat} {c : Bg} {t t' : List LV} {st st' : List LObj} {os os' : Os} {ps : List Prop} {o : Cr}, Ck lp k n c t st os = some (o, t', st', ps, os') → Kh ps →
  Exec lp k c t st (o, t', st')
 | 0, c, t, t', st, st', os, os', ps, o, h, _ => by simp [Ck] at h
 | n + 1, c, t, t', st, st', os, os', ps, o, h, hp => by
  cases c with
  | skip => simp only [Ck] at h; cases h; exact ⟨1, rfl⟩
  | exit id mask => simp only [Ck] at h; cases h; exact ⟨1, rfl⟩
  | ret mask => simp only [Ck] at h; cases h; exact ⟨1, rfl⟩
  | fail => simp [Ck] at h
  | region ops =>
   simp only [Ck] at h
   split at h
   ·rename_i t1 st1 ps1 os1 hs
    cases h
    obtain ⟨m, hm⟩ := Mn hs hp
    exact ⟨m + 1, by simp only [A4]; rw [hm (m + 1) (by omega)]⟩
   ·cases h
  | drawn ops =>
   simp only [Ck] at h
   split at h
   ·rename_i t1 st1 ps1 os1 hs
    cases h
    obtain ⟨m, hm⟩ := En hs hp (by simp)
    exact ⟨m + 1, by simp only [A4]; rw [hm (m + 1) (by omega) [] (by simp)]⟩
   ·cases h
  | seq a b =>
   simp only [Ck] at h
   split at h
   ·rename_i t1 st1 ps1 os1 hs
    split at h
    ·rename_i o2 t2 st2 ps2 os2 hs2
     cases h
     obtain ⟨h1, h2⟩ := Cj hp
     obtain ⟨m1, e1⟩ := (B4 hs h1).at
     obtain ⟨m2, e2⟩ := (B4 hs2 h2).at
     refine ⟨max m1 m2 + 1, ?_⟩
     simp only [A4, Cu]
     rw [A9 (B1 (by omega)) (Nat.le_refl _) (e1 (max m1 m2) (by omega))]
     exact A9 (B1 (by omega)) (Nat.le_refl _) (e2 (max m1 m2) (by omega))
    ·cases h
   ·rename_i r hne
    cases ha : Ck lp k n a t st os with
    | none => rw [ha] at h; cases h
    | some x =>
     obtain ⟨o1, t1, st1, ps1, os1⟩ := x
     rw [ha] at h
     cases h
     obtain ⟨m, e⟩ := (B4 ha hp).at
     refine ⟨m + 1, ?_⟩
     simp only [A4, Cu]
     rw [A9 (B1 (by omega)) (Nat.le_refl _) (e m (Nat.le_refl _))]
     cases o with
     | normal => exact absurd ha (hne _ _ _ _)
     | _ => rfl
  | cond x a b =>
   simp only [Ck] at h
   split at h
   ·rename_i c os1 _
    split at h
    ·rename_i o1 t1 st1 ps1 os2 hs
     cases h
     have hx := hp _ (List.mem_cons_self ..)
     obtain ⟨m, e⟩ := (B4 hs (fun p hm => hp p (List.mem_cons_of_mem _ hm))).at
     refine ⟨m + 1, ?_⟩
     simp only [A4, hx]
     have := A9 (B1 (lp := lp) (show m ≤ m + 1 by omega)) (Nat.le_refl _) (e m (Nat.le_refl _))
     cases c <;> exact this
    ·cases h
   ·split at h
    ·rename_i hx
     obtain ⟨m, e⟩ := (B4 h hp).at
     refine ⟨m + 1, ?_⟩
     simp only [A4, hx]
     exact A9 (B1 (by omega)) (Nat.le_refl _) (e m (Nat.le_refl _))
    ·rename_i hx
     obtain ⟨m, e⟩ := (B4 h hp).at
     refine ⟨m + 1, ?_⟩
     simp only [A4, hx]
     exact A9 (B1 (by omega)) (Nat.le_refl _) (e m (Nat.le_refl _))
    ·cases h
   ·cases h
  | Dj x a b d =>
   simp only [Ck] at h
   obtain ⟨m, e⟩ := (B4 h hp).at
   exact ⟨m + 1, A9 (B1 (by omega)) (Nat.le_refl _) (Ut (e m (Nat.le_refl _)))⟩
  | block id mask a =>
   simp only [Ck] at h
   have go : ∀ {o1 t1 st1 ps1 os1}, Ck lp k n a t st os = some (o1, t1, st1, ps1, os1) → Kh ps1 → ∃ m, A4 (Du lp (m + 1)) k m a t st = some (o1, t1, st1) := by
    intro o1 t1 st1 ps1 os1 hs hp1
    obtain ⟨m, e⟩ := (B4 hs hp1).at
    exact ⟨m, A9 (B1 (by omega)) (Nat.le_refl _) (e m (Nat.le_refl _))⟩
   split at h
   ·rename_i i t1 st1 ps1 os1 hs
    split at h
    ·rename_i hi
     cases h
     obtain ⟨m, e⟩ := go hs hp
     exact ⟨m + 1, by simp only [A4, e]; rw [if_pos hi]⟩
    ·rename_i hi
     cases h
     obtain ⟨m, e⟩ := go hs hp
     exact ⟨m + 1, by simp only [A4, e]; rw [if_neg hi]⟩
   ·rename_i t1 st1 ps1 os1 hs
    cases h
    obtain ⟨m, e⟩ := go hs hp
    exact ⟨m + 1, by simp only [A4, e]⟩
   ·rename_i r hne1 hne2
    cases ha : Ck lp k n a t st os with
    | none => rw [ha] at h; cases h
    | some x =>
     obtain ⟨o1, t1, st1, ps1, os1⟩ := x
     rw [ha] at h
     cases h
     obtain ⟨m, e⟩ := go ha hp
     refine ⟨m + 1, ?_⟩
     simp only [A4, e]
     cases o with
     | normal => exact absurd ha (hne2 _ _ _ _)
     | exit i => exact absurd ha (hne1 _ _ _ _ _)
     | ret => rfl
  | loop mask a =>
   simp only [Ck] at h
   split at h
   ·rename_i out t1 st1 os1 _
    split at h
    ·rename_i t0 st0 hg
     cases h
     obtain ⟨m, hm⟩ := hp _ (List.mem_singleton.2 rfl)
     refine ⟨m + 1, ?_⟩
     simp only [A4, hg]
     cases he : A4 (Du lp m) k m a t0 st0 with
     | none => rw [he] at hm; cases hm
     | some x =>
      obtain ⟨o2, t2, st2⟩ := x
      rw [he] at hm
      rw [A9 (B1 (show m ≤ m + 1 by omega)) (Nat.le_refl _) he]
      cases o2 with
      | normal => exact A9 (B1 (by omega)) (Nat.le_refl _) hm
      | _ => exact hm
    ·cases h
   ·cases h
end Go.LS
set_option linter.unusedVariables false
set_option linter.unusedSimpArgs false
namespace Go.LS
def Conj : List Prop → Prop
 | [] => True
 | p :: r => p ∧ Conj r
theorem Conj.all : ∀ {ps : List Prop}, Conj ps → Kh ps
 | [], _, p, hp => by cases hp
 | q :: r, h, p, hp => by
  rcases List.mem_cons.1 hp with rfl | hp
  ·exact h.1
  ·exact h.2.all p hp
def runO (lp : Bi) (N : Nat) (f : FuncId) (args : List LV) (st : List LObj) (os : Os) : Option (LV × List LObj × List Prop) :=
 match lp.summ f with
 | some _ => none
 | none => match lp.fns f with
  | none => none
  | some lf => match Ck lp st.length N lf.body (wk (lp.weak f) args ++ List.replicate (lf.ntmps - args.length) .und) st os with
   | some (.exit _, _, _, _, _) => none
   | some (_, t', st', ps, _) => match Kw t' st' lf.results with
    | some vs => match gc st.length (wk (lp.wres f) vs) st' with
     | some (vs', st'') => some (If vs', st'', ps)
     | none => none
    | none => none
   | none => none
theorem Io {lp : Bi} {N : Nat} {f : FuncId} {args : List LV} {st st' : List LObj} {os : Os} {v : LV} {ps : List Prop} (h : runO lp N f args st os = some (v, st', ps)) (hp : Conj ps) : Runs lp f args st (v, st') := by
 unfold runO at h
 split at h
 ·cases h
 ·rename_i hsm
  split at h
  ·cases h
  ·rename_i lf hlf
   split at h
   ·cases h
   ·rename_i out t1 st1 ps1 os1 hne hex
    split at h
    ·rename_i vs hvs
     split at h
     ·rename_i vs' st2 hgc
      simp only [Option.some.injEq, Prod.mk.injEq] at h
      obtain ⟨rfl, rfl, rfl⟩ := h
      obtain ⟨n, hn⟩ := B4 hex hp.all
      refine ⟨n + 1, ?_⟩
      simp only [Du, hsm, hlf, hn]
      cases out with
      | exit i => exact (hne i rfl).elim
      | normal => simp only [hvs, hgc]
      | ret => simp only [hvs, hgc]
     ·cases h
    ·cases h
   ·cases h
def Ki (lp : Bi) (N k : Nat) (mask : List Bool) (c : Bg) (t : List LV) (st : List LObj) (os : Os) : Option (Cr × List LV × List LObj × List Prop) :=
 match Ck lp k N c t st os with
 | some (.normal, t', st', ps, _) => match gc k (kill mask t') st' with
  | some (t'', st'') => some (.normal, t'', st'', ps)
  | none => none
 | some (o, t', st', ps, _) => some (o, t', st', ps)
 | none => none
theorem LoopAt.on {lp : Bi} {N k : Nat} {mask : List Bool} {c : Bg} {t t' : List LV} {st st' : List LObj} {os : Os} {ps : List Prop} {r : Cr × List LV × List LObj}
  (h : Ki lp N k mask c t st os = some (.normal, t', st', ps)) (hp : Conj ps) (hr : LoopAt lp k mask c t' st' r) : LoopAt lp k mask c t st r := by
 unfold Ki at h
 split at h
 ·rename_i t1 st1 ps1 os1 hex
  split at h
  ·rename_i t2 st2 hg
   simp only [Option.some.injEq, Prod.mk.injEq, true_and] at h
   obtain ⟨rfl, rfl, rfl⟩ := h
   obtain ⟨n, hn⟩ := (B4 hex hp.all).at
   obtain ⟨m, hm⟩ := hr
   refine ⟨max n m + 1, ?_⟩
   rw [hn (max n m + 1) (by omega)]
   simp only [A4, hg]
   cases he : A4 (Du lp m) k m c t2 st2 with
   | none => rw [he] at hm; cases hm
   | some x =>
    obtain ⟨o2, t3, st3⟩ := x
    rw [he] at hm
    rw [A9 (B1 (show m ≤ max n m + 1 by omega)) (show m ≤ max n m by omega) he]
    cases o2 with
    | normal => exact A9 (B1 (by omega)) (by omega) hm
    | _ => exact hm
  ·cases h
 ·rename_i hne hex
  simp only [Option.some.injEq, Prod.mk.injEq] at h
  obtain ⟨rfl, rfl, rfl, rfl⟩ := h
  exact (hne rfl).elim
 ·cases h
theorem LoopAt.out {lp : Bi} {N k : Nat} {mask : List Bool} {c : Bg} {t t' : List LV} {st st' : List LObj} {os : Os} {ps : List Prop} {o : Cr}
  (h : Ki lp N k mask c t st os = some (o, t', st', ps)) (ho : (match o with | .normal => false | _ => true) = true) (hp : Conj ps) : LoopAt lp k mask c t st (o, t', st') := by
 unfold Ki at h
 split at h
 ·split at h
  ·cases h; cases ho
  ·cases h
 ·rename_i o1 t1 st1 ps1 os1 hne hex
  simp only [Option.some.injEq, Prod.mk.injEq] at h
  obtain ⟨rfl, rfl, rfl, rfl⟩ := h
  obtain ⟨n, hn⟩ := B4 hex hp.all
  refine ⟨n, ?_⟩
  rw [hn]
  cases o1 with
  | normal => cases ho
  | _ => rfl
 ·cases h
def D4 : Bg → List (List Bool × Bg)
 | .seq a b => D4 a ++ D4 b
 | .cond _ a b => D4 a ++ D4 b
 | .Dj _ a b c => D4 a ++ D4 b ++ D4 c
 | .block _ _ c => D4 c
 | .loop m c => (m, c) :: D4 c
 | _ => []
def Ac (lf : LFn) (i : Nat) : List Bool × Bg := (D4 lf.body).getD i ([], .skip)
def tl (i : Nat) : Nat → List (Nat × LV) → List LV
 | 0, _ => []
 | n + 1, [] => .und :: tl (i + 1) n []
 | n + 1, (j, v) :: r => match Nat.beq i j with
  | true => v :: tl (i + 1) n r
  | false => .und :: tl (i + 1) n ((j, v) :: r)
abbrev OpW (st : List LObj) (op : LOp) (v : LV) (st' : List LObj) : Prop := Am A3 [] st op = some (v, st')
abbrev LoopN (lp : Bi) (k : Nat) (x : List Bool × Bg) (t : List LV) (st : List LObj) (r : Cr × List LV × List LObj) : Prop := LoopAt lp k x.1 x.2 t st r
def oO {st st' : List LObj} {op : LOp} {v : LV} (_ : OpW st op v st') : Orc := .op v st'
def oC {lp : Bi} {f : Nat} {as : List LV} {st st' : List LObj} {v : LV} (_ : Runs lp f as st (v, st')) : Orc := .call v st'
def oL {lp : Bi} {k : Nat} {x : List Bool × Bg} {t t' : List LV} {st st' : List LObj} {o : Cr} (_ : LoopN lp k x t st (o, t', st')) : Orc := .lp o t' st'
theorem cI {b c : Bool} (h : b = c) : LV.p (PV.bool b) = .p (.bool c) := congrArg (fun b => LV.p (PV.bool b)) h
theorem Sf {lp : Bi} {f : FuncId} {a : List LV} {s : List LObj} {c : Bool} {x y : LV × List LObj} (h : Runs lp f a s (if c = true then x else y)) (hc : c = true) : Runs lp f a s x := by rwa [if_pos hc] at h
theorem iteF {lp : Bi} {f : FuncId} {a : List LV} {s : List LObj} {c : Bool} {x y : LV × List LObj} (h : Runs lp f a s (if c = true then x else y)) (hc : c = false) : Runs lp f a s y := by rwa [if_neg (by simp [hc])] at h
theorem Ae {b c : Bool} (h : b = c) : (!b) = !c := by rw [h]
end Go.LS
set_option linter.unusedVariables false
set_option linter.unusedSimpArgs false
namespace Go.LS
theorem Xc (b : UInt8) : unb [.int .u8 b.toNat] = some b := by simp [unb]
theorem Lr : ∀ (L : List UInt8), M8 (bs L) = some L
 | [] => rfl
 | b :: r => by
  have := Lr r
  simp only [bs] at this
  simp [bs, M8, Xc, this]
theorem Qs {v : LV} {L : List UInt8} {st : List LObj} (h : v.asSl = some (bs L)) : Am A3 [] st (.cv .b2s (.const v)) = some (.p (.str L), st) := by
 have : lcv .b2s v = some (.str L) := by
  cases v <;> simp only [LV.asSl] at h <;> first | (cases h; done) | skip
  case p v =>
   cases v <;> simp only [LV.asSl] at h <;> first | (cases h; done) | skip
   cases h; simp [lcv, LV.asSl, Lr]
  case sl es t f => cases h; simp [lcv, LV.asSl, Lr]
  case tight es => cases h; simp [lcv, LV.asSl, Lr]
 simp [Am, LX.ev, this]
theorem Bz (L : List UInt8) : (bs L).length = L.length := by simp [bs]
theorem N4 (L M : List UInt8) : bs (L ++ M) = bs L ++ bs M := by simp [bs]
theorem Qt (L : List UInt8) : Gj 1 (bs L) = true := by simp [Gj, bs]
theorem Qu (M : List UInt8) : (bs M).isEmpty = M.isEmpty := by cases M <;> rfl
theorem Tt {e : Int} (h0 : 0 ≤ e) (h1 : e ≤ 255) : [[PV.int .u8 e]] = bs [UInt8.ofNat e.toNat] := by
 simp [bs]
 omega
theorem Fq {str : Bool} {L M : List UInt8} {es : List (List PV)} {t : Nat} {st : List LObj} {x : LV} (hs : st[t]? = some (.spare 1 L.length)) (hx : D6 str st x = some es) (he : es = bs M)
  (hl : L.length + M.length ≤ 200000000000000) : Am A3 [] st (.append str 1 1 (.const (.sl (bs L) t L.length)) (.const x)) = some (.sl (bs (L ++ M)) t (L ++ M).length, st.set t (.spare 1 (L ++ M).length)) := by
 subst he
 refine Lx ?_
 simp only [LX.ev, Fa, hx, Qt, hs, Qu, Bz]
 by_cases hM : M.isEmpty = true
 ·have : M = [] := by simpa using hM
  subst this
  simp
  obtain ⟨h1, h2⟩ := List.getElem?_eq_some_iff.1 hs
  conv => rhs; rw [← h2]
  simp
 ·simp only [hM]
  simp [N4, maxLen, V6 hl]
  omega
theorem Fr {str : Bool} {L M : List UInt8} {es es0 : List (List PV)} {st : List LObj} {x : LV} (he0 : es0 = bs L) (hx : D6 str st x = some es) (he : es = bs M) (hM : M ≠ [])
  (hl : L.length + M.length ≤ 200000000000000) : Am A3 [] st (.append str 1 1 (.const (.tight es0)) (.const x)) = some (.sl (bs (L ++ M)) st.length (L ++ M).length, st ++ [.spare 1 (L ++ M).length]) := by
 subst he he0
 have : M.isEmpty = false := by cases M <;> simp_all
 refine Lx ?_
 simp only [LX.ev, Fa, hx, Qt, Qu, Bz, this]
 simp [N4, maxLen, V6 hl]
 omega
def As (u : Nat) : List UInt8 := if u < 128 then [UInt8.ofNat u] else UInt8.ofNat (u % 128 + 128) :: As (u / 128)
termination_by u
decreasing_by omega
theorem vcode_len : ∀ (u : Nat), u < 2 ^ 64 → (As u).length ≤ 10 := by
 have key : ∀ k u, u < 128 ^ (k + 1) → (As u).length ≤ k + 1 := by
  intro k
  induction k with
  | zero => intro u hu; rw [As]; simp at hu; simp [hu]
  | succ k ih =>
   intro u hu
   rw [As]
   split
   ·simp
   ·simp only [List.length_cons]
    have := ih (u / 128) (by rw [Nat.div_lt_iff_lt_mul (by omega)]; rw [Nat.pow_succ] at hu; exact hu)
    omega
 intro u hu
 exact key 9 u (Nat.lt_of_lt_of_le hu (by decide))
end Go.LS
namespace Go.LS
theorem Ia (n : Int) : 0 ≤ IntKind.wrap .u8 n ∧ IntKind.wrap .u8 n ≤ 255 := by
 simp only [IntKind.wrap, IntKind.bits, IntKind.signed]
 simp
 omega
theorem Cz (n : Int) : [[PV.int .u8 (IntKind.wrap .u8 n)]] = bs [UInt8.ofNat (IntKind.wrap .u8 n).toNat] := Tt (Ia n).1 (Ia n).2
end Go.LS
namespace Go.LS
theorem Xd {s : List UInt8} {st : List LObj} (h : s.length ≤ 140737488355328) : Am A3 [] st (.cv .s2b (.const (.p (.str s)))) = some (.p (.sl (bs s)), st) := by
 simp [Am, LX.ev, lcv, h]
theorem B6 {n : Nat} (h : n < 2 ^ 64) : IntKind.wrap .u64 (n : Int) = (n : Int) := by
 simp only [IntKind.wrap, IntKind.bits, IntKind.signed]
 simp
 omega
theorem Mp (n : Int) : IntKind.wrap .u64 n = n % 18446744073709551616 := by
 simp only [IntKind.wrap, IntKind.bits, IntKind.signed]
 simp
theorem A8 {n : Int} (h0 : -9223372036854775808 ≤ n) (h1 : n ≤ 9223372036854775807) : IntKind.wrap .i64 n = n := by
 simp only [IntKind.wrap, IntKind.bits, IntKind.signed]
 simp
 omega
end Go.LS
namespace Go.LS
theorem Sg (L : List UInt8) (n : Nat) (h : n = 1) : ((bs L).all fun e => e.length == n) = true := by subst h; simp [bs]
theorem Tu (L : List UInt8) (k : Nat) : bs (L.take k) = (bs L).take k := by simp [bs, List.map_take]
theorem Tv (L : List UInt8) (k : Nat) : bs (L.drop k) = (bs L).drop k := by simp [bs, List.map_drop]
end Go.LS
namespace Go.LS
theorem Xe {v : LV} {L : List UInt8} {i : Nat} {c : UInt8} {st : List LObj} (hv : v.asSl = some (bs L)) (hr : v.isRs = false) (h : L[i]? = some c) :
  Am A3 [] st (.indexAddr 1 (.const v) (.const (.p (.int .i64 ((i : Nat) : Int))))) = some (.pin [.int .u8 c.toNat] 0, st) := by
 have hb : (bs L)[i]? = some [.int .u8 c.toNat] := by simp [bs, h]
 have h0 : ¬ ((i : Int) < 0) := by omega
 cases v <;> simp only [LV.isRs, Bool.true_eq_false] at hr <;> simp only [LV.asSl] at hv <;> first | (cases hv; done) | skip
 all_goals simp [Am, LX.ev, LV.asInt, LV.asSl, hv, hb, h0]
end Go.LS
namespace Go.LS
theorem A5 {v : LV} {L : List UInt8} {i : Nat} {st : List LObj} (hv : v.asSl = some (bs L)) (hr : v.isRs = false) (h : i < L.length) :
  Am A3 [] st (.indexAddr 1 (.const v) (.const (.p (.int .i64 ((i : Nat) : Int))))) = some (.pin [.int .u8 ((L.getD i 0).toNat : Int)] 0, st) := by
 rw [Xe hv hr (c := L.getD i 0) (by simp [List.getD, h])]
theorem Cd {M : List UInt8} {k : IntKind} {lo : Int} {st : List LObj} (h0 : 0 ≤ lo) (h : lo ≤ (M.length : Int)) :
  Am A3 [] st (.slice 1 (.const (.p (.sl (bs M)))) (some (.const (.p (.int k lo)))) none none) = some (.p (.sl (bs (M.drop lo.toNat))), st) := by
 have e : (bs M).take (bs M).length = bs M := List.take_length
 have e2 : (bs M).take M.length = bs M := by rw [← Bz M]; exact e
 simp [Am, LX.ev, Es, LV.asSl, Sg, Er, bnd, Bz, h0, h, Tv, e2]
theorem O2 {M : List UInt8} {k : IntKind} {hi : Int} {st : List LObj} (h0 : 0 ≤ hi) (h : hi ≤ (M.length : Int)) :
  Am A3 [] st (.slice 1 (.const (.p (.sl (bs M)))) none (some (.const (.p (.int k hi)))) none) = some (.p (.sl (bs (M.take hi.toNat))), st) := by
 simp [Am, LX.ev, Es, LV.asSl, Sg, Er, bnd, Bz, h0, h, Tu]
 split
 ·rename_i v hv
  split at hv
  ·rename_i h1
   cases hv
   rw [h1.1, ← Bz M, List.take_length]
  ·cases hv; rfl
 ·rename_i hv; split at hv <;> cases hv
theorem O3 {M : List UInt8} {k j : IntKind} {lo hi : Int} {st : List LObj} (h0 : 0 ≤ lo) (h1 : lo ≤ hi) (h : hi ≤ (M.length : Int)) :
  Am A3 [] st (.slice 1 (.const (.p (.sl (bs M)))) (some (.const (.p (.int k lo)))) (some (.const (.p (.int j hi)))) none) = some (.p (.sl (bs ((M.take hi.toNat).drop lo.toNat))), st) := by
 have hh : 0 ≤ hi := by omega
 have hl : lo ≤ ((hi.toNat : Nat) : Int) := by omega
 have hl2 : lo ≤ max hi 0 := by omega
 simp [Am, LX.ev, Es, LV.asSl, Sg, Er, bnd, Bz, h0, hh, hl, hl2, h, Tu, Tv]
 split
 ·rename_i v hv
  split at hv
  ·rename_i h1
   cases hv
   rw [h1.1, ← Bz M, List.take_length]
  ·cases hv; rfl
 ·rename_i hv; split at hv <;> cases hv
theorem Mq {M : List UInt8} {k : IntKind} {hi : Int} {st : List LObj} (h0 : 0 ≤ hi) (h : hi ≤ (M.length : Int)) :
  Am A3 [] st (.sslice (.const (.p (.str M))) none (some (.const (.p (.int k hi)))) none) = some (.p (.str (M.take hi.toNat)), st) := by
 simp [Am, LX.ev, Er, bnd, h0, h]
theorem C9 {k j : IntKind} {a b : Int} {st : List LObj} (h : 0 ≤ b) :
  Am A3 [] st (.bin .shl (.const (.p (.int k a))) (.const (.p (.int j b)))) = some (.p (.int k (IntKind.wrap k (a * 2 ^ min (Int.toNat b) k.bits))), st) := by
 have h0 : ¬ b < 0 := by omega
 simp [Am, LX.ev, Zw, h0]
theorem Ak {lp : Bi} {f : FuncId} {args : List LV} {st : List LObj} {c : Prop} [Decidable c] {a b : LV × List LObj} (k : c) (h : Runs lp f args st a) : Runs lp f args st (if c then a else b) := by rwa [if_pos k]
theorem Al {lp : Bi} {f : FuncId} {args : List LV} {st : List LObj} {c : Prop} [Decidable c] {a b : LV × List LObj} (k : ¬ c) (h : Runs lp f args st b) : Runs lp f args st (if c then a else b) := by rwa [if_neg k]
theorem Ao {v : LV} {E : List (List PV)} {e : List PV} {z : Nat} {i : Nat} {st : List LObj} (hv : v.asSl = some E) (hr : v.isRs = false) (h : E[i]? = some e) (hz : e.length = z) :
  Am A3 [] st (.indexAddr z (.const v) (.const (.p (.int .i64 ((i : Nat) : Int))))) = some (.pin e 0, st) := by
 have h0 : ¬ ((i : Int) < 0) := by omega
 cases v <;> simp only [LV.isRs, Bool.true_eq_false] at hr <;> simp only [LV.asSl] at hv <;> first | (cases hv; done) | skip
 all_goals simp [Am, LX.ev, LV.asInt, LV.asSl, hv, h, h0, hz]
end Go.LS
set_option linter.unusedVariables false
set_option linter.unusedSimpArgs false
namespace Go.LS
inductive Cty where
 | bool
 | int (k : IntKind)
 | str
 | sl (ts : List Cty) (bytes : Nat)
 | pr (Q : List PV → Prop) (bytes : Nat)
mutual
def Uv : Cty → PV → Prop
 | .bool, p => ∃ b, p = .bool b
 | .int k, p => ∃ n, p = .int k n ∧ k.min ≤ n ∧ n ≤ k.max
 | .str, p => ∃ s, p = .str s ∧ s.length ≤ reachBytes
 | .sl ts bytes, p => ∃ es : List (List PV), p = .sl es ∧ es.length * bytes ≤ reachBytes ∧ es.length ≤ maxLen ∧ ∀ e ∈ es, Bm ts e
 | .pr Q bytes, p => ∃ es : List (List PV), p = .sl es ∧ es.length * bytes ≤ reachBytes ∧ es.length ≤ maxLen ∧ ∀ e ∈ es, Q e
def Bm : List Cty → List PV → Prop
 | [], ps => ps = []
 | t :: ts, ps => ∃ p r, ps = p :: r ∧ Uv t p ∧ Bm ts r
end
def Lk (P : Program) (rc : TypeId → Option (List Cty)) : Nat → List Field → Option (List Cty)
 | _, [] => some []
 | off, f :: r => match rc f.type with
  | some ts => if f.offset = off ∧ ts.length = P.cellsOf f.type then
    match Lk P rc (off + ts.length) r with
    | some l => some (ts ++ l)
    | none => none
   else none
  | none => none
def tyT (P : Program) (cut : List TypeId) (Q : TypeId → List PV → Prop) : Nat → TypeId → Option (List Cty)
 | 0, _ => none
 | n + 1, t => match P.underlying t with
  | some .bool => some [.bool]
  | some (.int k) => some [.int k]
  | some .string => some [.str]
  | some (.slice e) => if e ∈ cut then some [.pr (Q e) (P.bytesOf e)] else match tyT P cut Q n e with
   | some ts => if ts.length = P.cellsOf e ∧ 0 < ts.length then some [.sl ts (P.bytesOf e)] else none
   | none => none
  | some (.struct fs) => match Lk P (tyT P cut Q n) 0 fs.toList with
   | some ts => if ts.length = P.cellsOf t then some ts else none
   | none => none
  | some (.array m e) => match tyT P cut Q n e with
   | some ts => if m * ts.length = P.cellsOf t ∧ ts.length = P.cellsOf e then some (List.replicate m ts).flatten else none
   | none => none
  | _ => none
def RecOk (P : Program) (cut : List TypeId) (N : Nat) : Nat → TypeId → List PV → Prop
 | 0, _, _ => False
 | k + 1, t, ps => ∃ ts, tyT P cut (RecOk P cut N k) N t = some ts ∧ Bm ts ps
def Xm (Q R : TypeId → List PV → Prop) : Prop := ∀ e x, Q e x → R e x
def Cle (ts us : List Cty) : Prop := us.length = ts.length ∧ ∀ ps, Bm ts ps → Bm us ps
theorem Cle.append {a b c d : List Cty} (h : Cle a b) (k : Cle c d) : Cle (a ++ c) (b ++ d) := by
 refine ⟨by simp [h.1, k.1], ?_⟩
 have : ∀ (a b : List Cty), b.length = a.length → (∀ ps, Bm a ps → Bm b ps) → ∀ ps, Bm (a ++ c) ps → Bm (b ++ d) ps := by
  intro a b hl hab ps hp
  obtain ⟨p1, p2, rfl, h1, h2⟩ := split a c ps hp
  exact join b d p1 p2 (hab _ h1) (k.2 _ h2)
 exact this a b h.1 h.2
where
 split : ∀ (a c : List Cty) (ps : List PV), Bm (a ++ c) ps → ∃ p1 p2, ps = p1 ++ p2 ∧ Bm a p1 ∧ Bm c p2
  | [], c, ps, h => ⟨[], ps, rfl, by simp [Bm], h⟩
  | t :: a, c, ps, h => by
   simp only [List.cons_append, Bm] at h
   obtain ⟨p, r, rfl, h1, h2⟩ := h
   obtain ⟨p1, p2, rfl, h3, h4⟩ := split a c r h2
   exact ⟨p :: p1, p2, rfl, by simp only [Bm]; exact ⟨p, p1, rfl, h1, h3⟩, h4⟩
 join : ∀ (a c : List Cty) (p1 p2 : List PV), Bm a p1 → Bm c p2 → Bm (a ++ c) (p1 ++ p2)
  | [], c, p1, p2, h, k => by simp only [Bm] at h; subst h; exact k
  | t :: a, c, p1, p2, h, k => by
   simp only [Bm] at h
   obtain ⟨p, r, rfl, h1, h2⟩ := h
   simp only [List.cons_append, Bm]
   exact ⟨p, r ++ p2, rfl, h1, join a c r p2 h2 k⟩
theorem N5 {P : Program} {rc rd : TypeId → Option (List Cty)} (h : ∀ t ts, rc t = some ts → ∃ us, rd t = some us ∧ Cle ts us) : ∀ {fs : List Field} {off : Nat} {ts : List Cty}, Lk P rc off fs = some ts → ∃ us, Lk P rd off fs = some us ∧ Cle ts us
 | [], off, ts, he => by simp only [Lk] at he; cases he; exact ⟨[], rfl, rfl, fun _ h => h⟩
 | f :: fs, off, ts, he => by
  simp only [Lk] at he
  split at he
  ·rename_i t1 h1
   split at he
   ·rename_i hc
    split at he
    ·rename_i l h2
     cases he
     obtain ⟨u1, g1, g2⟩ := h _ _ h1
     obtain ⟨u2, k1, k2⟩ := N5 h h2
     refine ⟨u1 ++ u2, ?_, g2.append k2⟩
     simp only [Lk, g1]
     rw [if_pos ⟨hc.1, by rw [g2.1]; exact hc.2⟩, g2.1, k1]
    ·cases he
   ·cases he
  ·cases he
theorem Cle.rep {a b : List Cty} (h : Cle a b) : ∀ m, Cle (List.replicate m a).flatten (List.replicate m b).flatten
 | 0 => ⟨rfl, fun _ h => h⟩
 | m + 1 => by rw [List.replicate_succ, List.replicate_succ, List.flatten_cons, List.flatten_cons]; exact h.append (h.rep m)
theorem Fs {P : Program} {cut : List TypeId} {Q R : TypeId → List PV → Prop} (hQ : Xm Q R) : ∀ {n : Nat} {t : TypeId} {ts : List Cty}, tyT P cut Q n t = some ts → ∃ us, tyT P cut R n t = some us ∧ Cle ts us
 | 0, t, ts, h => by simp [tyT] at h
 | n + 1, t, ts, h => by
  simp only [tyT] at h ⊢
  split at h
  ·cases h; exact ⟨_, rfl, rfl, fun _ h => h⟩
  ·cases h; exact ⟨_, rfl, rfl, fun _ h => h⟩
  ·cases h; exact ⟨_, rfl, rfl, fun _ h => h⟩
  ·rename_i e hu
   split at h
   ·rename_i hc
    cases h
    rw [if_pos hc]
    refine ⟨_, rfl, rfl, fun ps hp => ?_⟩
    simp only [Bm, Uv] at hp ⊢
    obtain ⟨p, r, rfl, ⟨es, rfl, a1, a2, a3⟩, h2⟩ := hp
    exact ⟨_, _, rfl, ⟨es, rfl, a1, a2, fun x hx => hQ _ _ (a3 x hx)⟩, h2⟩
   ·rename_i hc
    rw [if_neg hc]
    split at h
    ·rename_i us hus
     split at h
     ·rename_i hl
      cases h
      obtain ⟨vs, g1, g2⟩ := Fs hQ hus
      simp only [g1]
      rw [if_pos ⟨by rw [g2.1]; exact hl.1, by rw [g2.1]; exact hl.2⟩]
      refine ⟨_, rfl, rfl, fun ps hp => ?_⟩
      simp only [Bm, Uv] at hp ⊢
      obtain ⟨p, r, rfl, ⟨es, rfl, a1, a2, a3⟩, h2⟩ := hp
      exact ⟨_, _, rfl, ⟨es, rfl, a1, a2, fun x hx => g2.2 _ (a3 x hx)⟩, h2⟩
     ·cases h
    ·cases h
  ·split at h
   ·rename_i us hus
    split at h
    ·rename_i hl
     cases h
     obtain ⟨vs, g1, g2⟩ := N5 (fun t ts h => Fs hQ h) hus
     simp only [g1]
     rw [if_pos (by rw [g2.1]; exact hl)]
     exact ⟨_, rfl, g2⟩
    ·cases h
   ·cases h
  ·rename_i m e hu
   split at h
   ·rename_i us hus
    split at h
    ·rename_i hl
     cases h
     obtain ⟨vs, g1, g2⟩ := Fs hQ hus
     simp only [g1]
     rw [if_pos ⟨by rw [g2.1]; exact hl.1, by rw [g2.1]; exact hl.2⟩]
     exact ⟨_, rfl, g2.rep m⟩
    ·cases h
   ·cases h
  ·cases h
theorem RecOk.mono {P : Program} {cut : List TypeId} {N : Nat} : ∀ k, Xm (RecOk P cut N k) (RecOk P cut N (k + 1))
 | 0, e, x, h => h.elim
 | k + 1, e, x, h => by
  obtain ⟨ts, h1, h2⟩ := h
  obtain ⟨us, g1, g2⟩ := Fs (RecOk.mono k) h1
  exact ⟨us, g1, g2.2 _ h2⟩
abbrev Dn (w : World) : Nat → Nat → Option Value := fun b o => w.cell? ⟨b, o, none⟩
def CellsOk (F : Nat → Nat → Option Value) (ts : List Cty) (cs : List Value) (ps : List PV) : Prop :=
 cs.length = ps.length ∧ Bm ts ps ∧ ∀ (i : Nat) p, ps[i]? = some p → ∃ u, cs[i]? = some u ∧ VP F p u
theorem Jk : ∀ {ts us : List Cty} {ps qs : List PV}, Bm ts ps → Bm us qs → Bm (ts ++ us) (ps ++ qs)
 | [], us, ps, qs, h, k => by simp only [Bm] at h; subst h; simpa using k
 | t :: ts, us, ps, qs, h, k => by
  simp only [Bm] at h
  obtain ⟨p, r, rfl, h1, h2⟩ := h
  simp only [List.cons_append, Bm]
  exact ⟨p, r ++ qs, rfl, h1, Jk h2 k⟩
theorem F5 : ∀ {ts : List Cty} {ps : List PV}, Bm ts ps → ps.length = ts.length
 | [], ps, h => by simp only [Bm] at h; subst h; rfl
 | t :: ts, ps, h => by
  simp only [Bm] at h
  obtain ⟨p, r, rfl, h1, h2⟩ := h
  simp [F5 h2]
theorem CellsOk.append {F : Nat → Nat → Option Value} {ts us : List Cty} {cs ds : List Value} {ps qs : List PV} (h : CellsOk F ts cs ps) (k : CellsOk F us ds qs) : CellsOk F (ts ++ us) (cs ++ ds) (ps ++ qs) := by
 refine ⟨by simp [h.1, k.1], Jk h.2.1 k.2.1, fun i p hi => ?_⟩
 by_cases hlt : i < ps.length
 ·rw [List.getElem?_append_left hlt] at hi
  rw [List.getElem?_append_left (by rw [h.1]; exact hlt)]
  exact h.2.2 i p hi
 ·rw [List.getElem?_append_right (by omega)] at hi
  rw [List.getElem?_append_right (by rw [h.1]; omega), h.1]
  exact k.2.2 _ p hi
theorem CellsOk.one {F : Nat → Nat → Option Value} {t : Cty} {p : PV} {u : Value} (h : Uv t p) (k : VP F p u) : CellsOk F [t] [u] [p] := by
 refine ⟨rfl, ?_, fun i q hi => ?_⟩
 ·simp only [Bm]; exact ⟨p, [], rfl, h, rfl⟩
 ·cases i with
  | zero => simp at hi; subst hi; exact ⟨u, rfl, k⟩
  | succ i => simp at hi
section
variable {H : Type} {enc : TypeId × Value → H} {P : Program} {W : World}
theorem Hg {e : TypeId} : ∀ {ds : List (DataW H)} {d : DataW H} {x : Nat}, d ∈ ds → x ∈ d.weights P e → x ∈ DataW.weightsAll P e ds
 | [], d, x, hd, _ => by cases hd
 | y :: r, d, x, hd, hx => by
  simp only [DataW.weightsAll, List.mem_append]
  rcases List.mem_cons.1 hd with rfl | hd
  ·exact .inl hx
  ·exact .inr (Hg hd hx)
theorem N6 {n : Nat} {rc : TypeId → Option (List Cty)}
  (ih : ∀ t cs d ps ts, DataW.trod enc P W 0 (fun _ => true) true n t cs = some (d, ps) → rc t = some ts → (∀ x ∈ d.weights P t, x ≤ reachBytes) → ∃ pv, CellsOk (Dn W) ts cs pv) :
  ∀ (fs : List Field) (off : Nat) (cs : List Value) (xs : List (DataW H × List MemPlace)) (ts : List Cty), Lk P rc off fs = some ts → xs.length = fs.length →
   (∀ (i : Nat) f, fs[i]? = some f → DataW.trod enc P W 0 (fun _ => true) true n f.type ((cs.drop (f.offset - off)).take (P.cellsOf f.type)) = xs[i]?) →
   (∀ x ∈ DataW.weightsEach P (fs.map (·.type)) (xs.map (·.1)), x ≤ reachBytes) → cs.length = ts.length → ∃ pv, CellsOk (Dn W) ts cs pv
 | [], off, cs, xs, ts, ht, _, _, _, hl => by
  simp only [Lk] at ht; cases ht
  simp at hl
  subst hl
  exact ⟨[], rfl, rfl, by simp⟩
 | f :: fs, off, cs, xs, ts, ht, hx, hg, hw, hl => by
  simp only [Lk] at ht
  split at ht
  ·rename_i ts1 h1
   split at ht
   ·rename_i hc
    split at ht
    ·rename_i l h2
     cases ht
     cases xs with
     | nil => simp at hx
     | cons x xs =>
      have g0 := hg 0 f rfl
      rw [hc.1, Nat.sub_self] at g0
      simp only [List.drop_zero, List.getElem?_cons_zero] at g0
      simp only [List.map_cons, DataW.weightsEach, List.mem_append] at hw
      obtain ⟨pv1, c1⟩ := ih _ _ x.1 x.2 _ g0 h1 (fun y hy => hw y (.inl hy))
      rw [List.length_append] at hl
      have hd : (cs.drop ts1.length).length = l.length := by simp [hl]
      obtain ⟨pv2, c2⟩ := N6 ih fs (off + ts1.length) (cs.drop ts1.length) xs l h2 (by simpa using hx) (fun i f' hf => by
       have := hg (i + 1) f' (by simpa using hf)
       simp only [List.getElem?_cons_succ] at this
       rw [← this, List.drop_drop]
       have hle : off + ts1.length ≤ f'.offset := tyFs_le h2 i f' hf
       congr 3
       omega) (fun y hy => hw y (.inr hy)) hd
      have e : cs = (cs.take (P.cellsOf f.type)) ++ cs.drop ts1.length := by rw [← hc.2, List.take_append_drop]
      rw [e]
      exact ⟨pv1 ++ pv2, c1.append c2⟩
    ·cases ht
   ·cases ht
  ·cases ht
where
 tyFs_le {rc : TypeId → Option (List Cty)} : ∀ {fs : List Field} {off : Nat} {ts : List Cty}, Lk P rc off fs = some ts → ∀ (i : Nat) f, fs[i]? = some f → off ≤ f.offset
 | [], _, _, _, i, f, hf => by simp at hf
 | g :: fs, off, ts, h, i, f, hf => by
  simp only [Lk] at h
  split at h
  ·rename_i ts1 h1
   split at h
   ·rename_i hc
    split at h
    ·rename_i l h2
     cases i with
     | zero => simp at hf; subst hf; omega
     | succ i => have := tyFs_le h2 i f (by simpa using hf); omega
    ·cases h
   ·cases h
  ·cases h
theorem Xn {n : Nat} {e : TypeId} {ts : List Cty}
  (ih : ∀ cs d ps, DataW.trod enc P W 0 (fun _ => true) true n e cs = some (d, ps) → (∀ x ∈ d.weights P e, x ≤ reachBytes) → ∃ pv, CellsOk (Dn W) ts cs pv) (hc : ts.length = P.cellsOf e) :
  ∀ (m : Nat) (cs : List Value) (xs : List (DataW H × List MemPlace)), xs.length = m → cs.length = m * ts.length →
   (∀ i, i < m → DataW.trod enc P W 0 (fun _ => true) true n e ((cs.drop (i * P.cellsOf e)).take (P.cellsOf e)) = xs[i]?) →
   (∀ x ∈ DataW.weightsAll P e (xs.map (·.1)), x ≤ reachBytes) → ∃ pv, CellsOk (Dn W) (List.replicate m ts).flatten cs pv
 | 0, cs, xs, hx, hl, _, _ => by
  simp at hl
  subst hl
  exact ⟨[], rfl, rfl, by simp⟩
 | m + 1, cs, xs, hx, hl, hg, hw => by
  cases xs with
  | nil => simp at hx
  | cons x xs =>
   have g0 := hg 0 (by omega)
   simp only [Nat.zero_mul, List.drop_zero, List.getElem?_cons_zero] at g0
   simp only [List.map_cons, DataW.weightsAll, List.mem_append] at hw
   obtain ⟨pv1, c1⟩ := ih _ x.1 x.2 g0 (fun y hy => hw y (.inl hy))
   obtain ⟨pv2, c2⟩ := Xn ih hc m (cs.drop ts.length) xs (by simpa using hx) (by rw [List.length_drop, hl, Nat.add_mul]; omega) (fun i hi => by
    have := hg (i + 1) (by omega)
    simp only [List.getElem?_cons_succ] at this
    rw [← this, List.drop_drop]
    congr 3
    rw [Nat.add_mul, hc]; omega) (fun y hy => hw y (.inr hy))
   have e1 : cs = (cs.take (P.cellsOf e)) ++ cs.drop ts.length := by rw [← hc, List.take_append_drop]
   rw [e1, List.replicate_succ, List.flatten_cons]
   exact ⟨pv1 ++ pv2, c1.append c2⟩
theorem K5 {α : Type} {R : Nat → α → Prop} : ∀ (n : Nat), (∀ i, i < n → ∃ a, R i a) → ∃ l : List α, l.length = n ∧ ∀ i a, l[i]? = some a → R i a
 | 0, _ => ⟨[], rfl, by simp⟩
 | n + 1, h => by
  obtain ⟨l, h1, h2⟩ := K5 n (fun i hi => h i (by omega))
  obtain ⟨a, ha⟩ := h n (by omega)
  refine ⟨l ++ [a], by simp [h1], fun i b hb => ?_⟩
  rcases Aw hb with ⟨_, hb⟩ | ⟨rfl, rfl⟩
  ·exact h2 i b hb
  ·rw [h1]; exact ha
theorem trod_pv {cut : List TypeId} {N : Nat} (hcut : ∀ e ∈ cut, ∀ Q, ∃ ts, tyT P cut Q N e = some ts ∧ ts.length = P.cellsOf e ∧ 0 < ts.length) : ∀ (fuel : Nat) (Q : TypeId → List PV → Prop) (hQ : Xm (RecOk P cut N fuel) Q) (n : Nat) (t : TypeId) (cs : List Value) (d : DataW H) (ps : List MemPlace) (ts : List Cty),
  DataW.trod enc P W 0 (fun _ => true) true fuel t cs = some (d, ps) → tyT P cut Q n t = some ts → (∀ x ∈ d.weights P t, x ≤ reachBytes) → ∃ pv, CellsOk (Dn W) ts cs pv := by
 intro fuel
 induction fuel with
 | zero => intro Q hQ n t cs d ps ts h; simp [DataW.trod] at h
 | succ fuel ih0 =>
  intro Q hQ n t cs d ps ts h ht hw
  have ih := ih0 Q (fun e x hx => hQ e x (RecOk.mono fuel e x hx))
  cases n with
  | zero => simp [tyT] at ht
  | succ n =>
   simp only [tyT] at ht
   split at ht
   ·rename_i hu
    cases ht
    obtain ⟨b, rfl, e⟩ := DataW.trod_bool hu h
    exact ⟨[.bool b], .one ⟨b, rfl⟩ (.bool b)⟩
   ·rename_i k hu
    cases ht
    obtain ⟨m, rfl, e, hwf⟩ := DataW.trod_int hu h
    refine ⟨[.int k m], .one ⟨m, rfl, ?_⟩ (.int k m)⟩
    simpa [Lit.wf] using hwf
   ·rename_i hu
    cases ht
    obtain ⟨s, rfl, e, hwf⟩ := DataW.trod_string hu h
    cases e
    have := hw s.data.toList.length (by simp [DataW.weights])
    exact ⟨[.str s.data.toList], .one ⟨_, rfl, this⟩ (by have := VP.str (F := Dn W) s.data.toList; simpa using this)⟩
   ·rename_i e hu
    have slc : ∀ (us : List Cty) (c : Cty), us.length = P.cellsOf e → 0 < us.length → (∀ es : List (List PV), es.length * P.bytesOf e ≤ reachBytes → es.length ≤ maxLen → (∀ x ∈ es, Bm us x) → Uv c (.sl es)) →
      (∀ cs d ps, DataW.trod enc P W 0 (fun _ => true) true fuel e cs = some (d, ps) → (∀ x ∈ d.weights P e, x ≤ reachBytes) → ∃ pv, CellsOk (Dn W) us cs pv) → ∃ pv, CellsOk (Dn W) [c] cs pv := by
     intro us c hc1 hc2 hokc ihe
     rcases DataW.trod_slice hu h with ⟨rfl, _⟩ | ⟨a, len, cap, elems, rest, m, hm, rfl, hx, _, hlc, hcm, hel, hg, hsp, _⟩
     ·exact ⟨[.sl []], .one (hokc [] (by simp) (by simp) (by simp)) .nils⟩
     ·obtain rfl : m = fuel := by omega
      cases hx
      have hwl : (elems.length + rest.length) * P.bytesOf e ≤ reachBytes := hw _ (by simp [DataW.weights, hu])
      have each : ∀ i, i < len → ∃ pv : List PV, Bm us pv ∧ pv.length = us.length ∧ ∀ (j : Nat) p, pv[j]? = some p → ∃ u, W.cell? ((a.add (i * P.cellsOf e)).add j) = some u ∧ VP (Dn W) p u := by
       intro i hi
       have := hg i hi
       have hlt : i < elems.length := by omega
       rw [List.getElem?_eq_getElem hlt, Option.bind_eq_some_iff] at this
       obtain ⟨cs', h1, h2⟩ := this
       obtain ⟨pv, c1, c2, c3⟩ := ihe cs' elems[i].1 elems[i].2 (by rw [h2]) (fun x hx => hw x (by
        simp only [DataW.weights, hu, List.mem_cons, List.mem_append]
        exact .inr (.inl (Hg (List.mem_map.2 ⟨elems[i], List.getElem_mem _, rfl⟩) hx))))
       refine ⟨pv, c2, F5 c2, fun j p hj => ?_⟩
       obtain ⟨u, hu', hv⟩ := c3 j p hj
       refine ⟨u, ?_, hv⟩
       unfold World.cells? at h1
       split at h1
       ·have := mapM_some_get h1 j j (by
         have := (List.getElem?_eq_some_iff.1 hu').1
         have := mapM_some_length h1
         simp at this
         rw [List.getElem?_range (by omega)])
        rw [this]; exact hu'
       ·cases h1
      obtain ⟨es, e1, e2⟩ := K5 len each
      have hall : ∀ x ∈ es, Bm us x ∧ x.length = us.length := by
       intro x hx
       obtain ⟨i, hi⟩ := List.getElem?_of_mem hx
       exact ⟨(e2 i x hi).1, (e2 i x hi).2.1⟩
      have hok : Uv c (.sl es) := hokc es (Nat.le_trans (Nat.mul_le_mul_right _ (by omega)) hwl) (by omega) (fun x hx => (hall x hx).1)
      by_cases h0 : len = 0
      ·subst h0
       have : es = [] := List.eq_nil_of_length_eq_zero e1
       subst this
       exact ⟨[.sl []], .one hok (.sl0 a cap hcm)⟩
      ·have hspot : a.spot = none := by
        obtain ⟨x, hx⟩ : ∃ x, es[0]? = some x := ⟨es[0]'(by omega), by simp [show 0 < es.length by omega]⟩
        obtain ⟨_, hxl, hcell⟩ := e2 0 x hx
        obtain ⟨p, hp⟩ : ∃ p, x[0]? = some p := ⟨x[0]'(by omega), by simp [show 0 < x.length by omega]⟩
        obtain ⟨u, hu', _⟩ := hcell 0 p hp
        simp only [Nat.zero_mul, Addr.add, if_true] at hu'
        unfold World.cell? at hu'
        split at hu'
        ·split at hu'
         ·cases hu'
         ·rename_i hs; simpa using hs
        ·cases hu'
       obtain ⟨b, off, sp⟩ := a
       simp only at hspot
       subst hspot
       refine ⟨[.sl es], .one hok ?_⟩
       have key : ∀ i j p, at2 es i j = some p → ∃ u, Dn W b (off + i * us.length + j) = some u ∧ VP (Dn W) p u := by
        intro i j p hp
        unfold at2 at hp
        rw [Option.bind_eq_some_iff] at hp
        obtain ⟨x, hx, hj⟩ := hp
        obtain ⟨_, _, hcell⟩ := e2 i x hx
        obtain ⟨u, hu', hv⟩ := hcell j p hj
        refine ⟨u, ?_, hv⟩
        rw [Addr.add_lit, Addr.add_lit, ← hc1] at hu'
        exact hu'
       have := VP.mk (F := Dn W) (es := es) (size := us.length) (b := b) (off := off) (cap := cap) (by omega) hcm (fun x hx => (hall x hx).2) key
       rw [e1] at this
       exact this
    split at ht
    ·rename_i hcu
     cases ht
     obtain ⟨us, k1, k2, k3⟩ := hcut e hcu (RecOk P cut N fuel)
     refine slc us _ k2 k3 (fun es h1 h2 h3 => ⟨es, rfl, h1, h2, fun x hx => hQ e x ⟨us, k1, h3 x hx⟩⟩) (fun cs d ps h1 h2 => ih0 (RecOk P cut N fuel) (fun _ _ h => h) N e cs d ps us h1 k1 h2)
    ·split at ht
     ·rename_i us hus
      split at ht
      ·rename_i hc
       cases ht
       exact slc us _ hc.1 hc.2 (fun es h1 h2 h3 => ⟨es, rfl, h1, h2, h3⟩) (fun cs d ps h1 h2 => ih n e cs d ps us h1 hus h2)
      ·cases ht
     ·cases ht
   ·rename_i fs hu
    split at ht
    ·rename_i us hus
     split at ht
     ·rename_i hc
      rw [← Option.some.inj ht]
      obtain ⟨xs, m, hm, hx, hl, hxl, hg⟩ := DataW.trod_struct hu h
      obtain rfl : m = fuel := by omega
      cases hx
      refine N6 (fun t cs d ps ts h1 h2 h3 => ih n t cs d ps ts h1 h2 h3) fs.toList 0 cs xs us hus (by simp [hxl]) (fun i f hf => ?_) (fun x hx => hw x (by simp [DataW.weights, hu, hx])) (by rw [hl, hc])
      simpa using hg i f (by simpa using hf)
     ·cases ht
    ·cases ht
   ·rename_i m e hu
    split at ht
    ·rename_i us hus
     split at ht
     ·rename_i hc
      cases ht
      obtain ⟨xs, q, hq, hx, hl, hxl, hg⟩ := DataW.trod_array hu h
      obtain rfl : q = fuel := by omega
      cases hx
      exact Xn (fun cs d ps h1 h3 => ih n e cs d ps us h1 hus h3) hc.2 m cs xs hxl (by rw [hl, hc.1]) hg (fun x hx => hw x (by simp [DataW.weights, hu, hx]))
     ·cases ht
    ·cases ht
   ·cases ht
def Qx (agg : Bool) (ps : List PV) : LV := if agg then .agg (ps.map .p) else match ps with | [p] => .p p | _ => .und
def Jl (P : Program) (cut : List TypeId) (Q : TypeId → List PV → Prop) (n : Nat) : List TypeId → Option (List (Bool × List Cty))
 | [] => some []
 | t :: r => match P.underlying t, tyT P cut Q n t, Jl P cut Q n r with
  | some d, some ts, some l => some ((H2 d, ts) :: l)
  | _, _, _ => none
def OkArgs : List (Bool × List Cty) → List LV → Prop
 | [], l => l = []
 | (agg, ts) :: r, l => ∃ ps m, l = Qx agg ps :: m ∧ Bm ts ps ∧ OkArgs r m
theorem tyT_one {cut : List TypeId} {Q : TypeId → List PV → Prop} {n : Nat} {t : TypeId} {d : TypeDesc} {ts : List Cty} (hd : P.underlying t = some d) (ha : H2 d = false) (h : tyT P cut Q n t = some ts) : ts.length = 1 := by
 cases n with
 | zero => simp [tyT] at h
 | succ n =>
  simp only [tyT, hd] at h
  cases d <;> simp only [H2, Bool.true_eq_false] at ha <;> first | (cases h; rfl) | skip
  all_goals
   simp only at h
   first
    | (split at h
       ·cases h; rfl
       ·split at h
        ·split at h
         ·cases h; rfl
         ·cases h
        ·cases h)
    | (split at h
       ·split at h
        ·cases h; rfl
        ·cases h
       ·cases h)
    | cases h
theorem N7 {cut : List TypeId} {Q R : TypeId → List PV → Prop} (hQ : Xm Q R) {n : Nat} : ∀ {ts : List TypeId} {a b : List (Bool × List Cty)}, Jl P cut Q n ts = some a → Jl P cut R n ts = some b → ∀ vs, OkArgs a vs → OkArgs b vs
 | [], a, b, h, k, vs, hv => by simp only [Jl] at h k; cases h; cases k; exact hv
 | t :: r, a, b, h, k, vs, hv => by
  simp only [Jl] at h k
  split at h
  ·rename_i d ts l h1 h2 h3
   cases h
   obtain ⟨us, g1, g2⟩ := Fs hQ h2
   split at k
   ·rename_i d' ts' l' e1 e2 e3
    rw [h1] at e1; rw [g1] at e2
    cases e1; cases e2; cases k
    obtain ⟨ps, m, rfl, a1, a2⟩ := hv
    exact ⟨ps, m, rfl, g2.2 _ a1, N7 hQ h3 e3 _ a2⟩
   ·cases k
  ·cases h
theorem RecOk.le {cut : List TypeId} {N : Nat} : ∀ {k m : Nat}, k ≤ m → Xm (RecOk P cut N k) (RecOk P cut N m)
 | k, m, h => by
  induction h with
  | refl => exact fun _ _ h => h
  | step _ ih => exact fun e x hx => RecOk.mono _ e x (ih e x hx)
theorem T0 {cut : List TypeId} {N : Nat} (hcut : ∀ e ∈ cut, ∀ Q, ∃ ts, tyT P cut Q N e = some ts ∧ ts.length = P.cellsOf e ∧ 0 < ts.length) {n : Nat} {G : Gh} (hG : G.F = Dn W) : ∀ {ts : List TypeId} {vs : List Value} {ds gs : List (DataW H)} {us : List TypeId} {ps : List MemPlace} {tys : Nat → List (Bool × List Cty)}, DataW.TrodAll enc P W 0 (fun _ => true) true ts vs ds ps → (∀ k, Jl P cut (RecOk P cut N k) n ts = some (tys k)) →
  (∀ (j : Nat) t v, ts[j]? = some t → vs[j]? = some v → Value.okWide P W .any 0 t v ∨ ∃ base, Value.okWide P W .any base t v) → (∀ x ∈ DataW.weightsEach P (ts ++ us) (ds ++ gs), x ≤ reachBytes) →
  ∃ k, ∃ args, OkArgs (tys k) args ∧ args.length = vs.length ∧ ∀ (i : Nat) x u, args[i]? = some x → vs[i]? = some u → VL G x u
 | [], vs, ds, gs, us, ps, tys, h, ht, _, _ => by
  have := ht 0
  simp only [Jl, Option.some.injEq] at this
  obtain ⟨rfl, _, _⟩ := ChangeShapes.trodAll_nil h
  exact ⟨0, [], by rw [← this]; rfl, rfl, by simp⟩
 | t :: ts, vs, ds, gs, us, ps, tys, h, ht, hok, hw => by
  have hk : ∀ k, ∃ dd tt ll, P.underlying t = some dd ∧ tyT P cut (RecOk P cut N k) n t = some tt ∧ Jl P cut (RecOk P cut N k) n ts = some ll ∧ tys k = (H2 dd, tt) :: ll := by
   intro k
   have := ht k
   simp only [Jl] at this
   split at this
   ·rename_i dd tt ll h1 h2 h3
    exact ⟨dd, tt, ll, h1, h2, h3, (Option.some.inj this).symm⟩
   ·cases this
  have hl' : ∀ k, Jl P cut (RecOk P cut N k) n ts = some ((Jl P cut (RecOk P cut N k) n ts).getD []) := by
   intro k
   obtain ⟨dd, tt, ll, _, _, h3, _⟩ := hk k
   rw [h3]; rfl
  ·obtain ⟨v, vs', d, ds', p, q, rfl, rfl, rfl, ⟨fuel, h1⟩, h2⟩ := ChangeShapes.trodAll_cons h
   simp only [List.cons_append, DataW.weightsEach, List.mem_append] at hw
   obtain ⟨dd, tt, ll0, hd, htt, _, _⟩ := hk fuel
   obtain ⟨pv, c1, c2, c3⟩ := trod_pv hcut fuel _ (fun _ _ h => h) n t _ d p tt h1 htt (fun x hx => hw x (.inl hx))
   obtain ⟨k', args, a1, a2, a3⟩ := T0 hcut (n := n) hG h2 (tys := fun k => (Jl P cut (RecOk P cut N k) n ts).getD []) hl' (fun j t v hj hv => hok (j + 1) t v (by simpa using hj) (by simpa using hv)) (fun x hx => hw x (.inr hx))
   have hv : VL G (Qx (H2 dd) pv) v := by
    have hlen := F5 c2
    obtain ⟨base, hk⟩ : ∃ base, Value.okWide P W .any base t v := by
     rcases hok 0 t v rfl rfl with h | h
     ·exact ⟨0, h⟩
     ·exact h
    unfold Qx
    split
    ·rename_i ha
     have : ∃ arr, v = .agg arr := by
      unfold Value.okWide at hk
      rw [hd] at hk
      cases dd <;> simp [H2] at ha
      all_goals exact ⟨_, hk.choose_spec.1⟩
     obtain ⟨arr, rfl⟩ := this
     simp only [Value.cells] at c1 c3
     refine .agg arr (by simpa using c1) (fun i u hu => ?_) (fun i x hx => ?_)
     ·have hlt : i < pv.length := by rw [← c1]; simpa using (Array.getElem?_eq_some_iff.1 hu).1
      obtain ⟨u', hu', hvp⟩ := c3 i pv[i] (by simp [hlt])
      rw [Array.getElem?_toList, hu] at hu'
      cases hu'
      exact hvp.one
     ·rw [List.getElem?_map] at hx
      cases hq : pv[i]? with
      | none => simp [hq] at hx
      | some y =>
       simp [hq] at hx; subst hx
       obtain ⟨u', hu', hvp⟩ := c3 i y hq
       rw [Array.getElem?_toList] at hu'
       rw [Array.getD_eq_getD_getElem?, hu']
       rw [← hG] at hvp
       exact .p hvp
    ·rename_i ha
     have h1 := tyT_one hd (by simpa using ha) htt
     have hna : ∀ arr, v ≠ .agg arr := by
      rintro arr rfl
      unfold Value.okWide at hk
      rw [hd] at hk
      cases dd <;> simp [H2] at ha <;> simp [Cell.okWide, Cell.ok, hd] at hk
     obtain ⟨y, rfl⟩ := List.length_eq_one_iff.1 (hlen.trans h1)
     ·obtain ⟨u', hu', hvp⟩ := c3 0 y rfl
      have : v.cells = #[v] := by cases v <;> first | rfl | exact absurd rfl (hna _)
      rw [this] at hu'
      simp at hu'
      subst hu'
      rw [← hG] at hvp
      exact .p hvp
   obtain ⟨dd2, tt2, ll2, q1, q2, q3, q4⟩ := hk (max fuel k')
   have hdd : dd2 = dd := by rw [hd] at q1; exact (Option.some.inj q1).symm
   subst hdd
   obtain ⟨us2, g1, g2⟩ := Fs (RecOk.le (P := P) (cut := cut) (N := N) (Nat.le_max_left fuel k')) htt
   rw [q2] at g1
   cases g1
   have a1' := N7 (RecOk.le (P := P) (cut := cut) (N := N) (Nat.le_max_right fuel k')) (hl' k') q3 _ a1
   refine ⟨max fuel k', Qx (H2 dd2) pv :: args, by rw [q4]; exact ⟨pv, args, rfl, g2.2 _ c2, a1'⟩, by simp [a2], fun i x u hx hu => ?_⟩
   cases i with
   | zero => simp at hx hu; subst hx; subst hu; exact hv
   | succ i => exact a3 i x u (by simpa using hx) (by simpa using hu)
end
end Go.LS
namespace Go.LS
def gh0 (w : World) : Gh := ⟨Dn w, fun _ => none, fun _ _ => none⟩
theorem wr0 (w : World) : WR (gh0 w) [] w where
 fr _ _ _ h := h
 dom _ _ := ⟨rfl, fun _ => rfl⟩
 row o es h := by simp at h
 map o es h := by simp at h
 iter o s p h := by simp at h
 spare o n hw h := by simp at h
 uniq o o' b h := by simp [Owns] at h
 ownF o b h := by simp [Owns] at h
 kind o x h := by simp at h
theorem Ext0.below {G G' : Gh} {st' : List LObj} {w w' : World} (h : Ext0 G [] w G' st' w') : RowKit.Below w.heap.size w w' :=
 ⟨h.os, h.tape, h.output, h.hsz, fun k hk => h.unch k hk (fun o ho => by simp [Owns] at ho)⟩
theorem Ib {H : Type} {enc : TypeId × Value → H} {P : Program} (hl : laidOutB P = true) {W W' : World} (hb : RowKit.Below W.heap.size W W') :
  ∀ {ts : List TypeId} {vs : List Value} {ds : List (DataW H)} {ps : List MemPlace}, (∀ t ∈ ts, P.readableRec t = true ∧ t < P.types.size) → DataW.TrodAll enc P W 0 (fun _ => true) true ts vs ds ps →
   DataW.TrodAll enc P W' 0 (fun b => decide (b < W.heap.size)) true ts vs ds ps
 | [], vs, ds, ps, _, h => by
  obtain ⟨rfl, rfl, rfl⟩ := ChangeShapes.trodAll_nil h
  rfl
 | t :: ts, vs, ds, ps, ht, h => by
  obtain ⟨v, vs', d, ds', p, q, rfl, rfl, rfl, h1, h2⟩ := ChangeShapes.trodAll_cons h
  refine ⟨p, q, ?_, Ib hl hb (fun t hm => ht t (by simp [hm])) h2, rfl⟩
  exact RowKit.Below.trod hl (ht t (by simp)).1 (ht t (by simp)).2 h1 hb (fun x hx => by
   obtain ⟨m, hm⟩ := h1
   exact DataW.trod_lt m _ _ _ hm x hx)
theorem K6 {H : Type} {enc : TypeId × Value → H} {P : Program} {W : World} : ∀ {ts : List TypeId} {vs : List Value} {ds : List (DataW H)} {ps : List MemPlace}, DataW.TrodAll enc P W 0 (fun _ => true) true ts vs ds ps → ds.length = vs.length
 | [], vs, ds, ps, h => by
  obtain ⟨rfl, rfl, _⟩ := ChangeShapes.trodAll_nil h
  rfl
 | t :: ts, vs, ds, ps, h => by
  obtain ⟨v, vs', d, ds', p, q, rfl, rfl, rfl, _, h2⟩ := ChangeShapes.trodAll_cons h
  simp [K6 h2]
theorem O4 {H : Type} {enc : TypeId × Value → H} {P : Program} {lp : Bi} (hp : PR P lp) (hl : laidOutB P = true) {f : FuncId} {fn : Func} {s : ChangeSpec} {tb : TypeId} {cut : List TypeId} {N n : Nat} {tys : Nat → List (Bool × List Cty)}
  (hcut : ∀ e ∈ cut, ∀ Q, ∃ ts, tyT P cut Q N e = some ts ∧ ts.length = P.cellsOf e ∧ 0 < ts.length)
  (hps : fn.params.toList.all (fun t => P.readableRec t && decide (t < P.types.size)) = true) (hres : fn.resultTypes = #[tb]) (htb : P.underlying tb = some .bool)
  (ht : ∀ k, Jl P cut (RecOk P cut N k) n fn.params.toList = some (tys k)) (hv : s.vars = []) (hsz : ∀ k, ∀ vs : List LV, OkArgs (tys k) vs → vs.length = fn.params.size)
  (hs : ∀ ds : List (DataW H), ds.length = fn.params.size → s.fn H ds = { results := [.lit (.bool true)], args := ds, vars := [] })
  (W : World) (base : Nat) (args : Array Value) (ds gs : List (DataW H)) (before : List MemPlace)
  (hrun : ∀ j vs, OkArgs (tys j) vs → ∃ k st', Du lp k f vs [] = some (.p (.bool true), st'))
  (hval : ∀ (j : Nat) t v, fn.params[j]? = some t → args[j]? = some v → Value.okWide P W .any base t v)
  (hW : DataW.Whole enc P fn.params.toList s.vars false W args.toList ds gs before)
  (hw : (DataW.weightsEach P (fn.params.toList ++ s.plain.varTypes P) (ds ++ gs)).all (· ≤ reachBytes) = true) :
  Calls P f args W fun e W' => ∃ v, e = .returned v ∧ s.post enc P fn false true false false W args v W' := by
 have hW' := hW
 obtain ⟨p, q, hA, hV, rfl, hfz, _⟩ := hW
 rw [hv] at hV
 obtain ⟨rfl, rfl⟩ := ChangeShapes.trodVars_none hV
 have hwx : ∀ x ∈ DataW.weightsEach P (fn.params.toList ++ s.plain.varTypes P) (ds ++ []), x ≤ reachBytes := fun x hx => by simpa using List.all_eq_true.1 hw x hx
 obtain ⟨j0, vs, a1, a2, a3⟩ := T0 (G := gh0 W) hcut rfl hA ht (fun j t v hj hv' => .inr ⟨base, hval j t v (by simpa using hj) (by simpa using hv')⟩) hwx
 obtain ⟨k, st', hr⟩ := hrun j0 vs a1
 obtain ⟨_, hcall⟩ := Sd hp k f vs [] _ _ hr
 refine (hcall (gh0 W) W args (wr0 W) ⟨by simpa using a2.symm, fun i x hx => ?_⟩).mono ?_
 ·have hlt : i < args.size := by have := (List.getElem?_eq_some_iff.1 hx).1; rw [a2] at this; simpa using this
  have := a3 i x args[i] hx (by simp [hlt])
  rw [Array.getD_eq_getD_getElem?, Array.getElem?_eq_getElem hlt]
  exact this
 ·rintro e W' ⟨u, G', rfl, _, hu, hx⟩
  have hub := hu.bool_inv
  subst hub
  have bel := hx.below
  have hdl : ds.length = fn.params.size := by
   rw [← hsz j0 vs a1, a2]
   exact K6 hA
  refine ⟨_, rfl, ds, [], _, [], p, [], hW', ?_, ?_, ?_, bel.frame _, fun h => by cases h⟩
  ·rw [List.append_nil, hs ds hdl, hres]
   exact ChangeShapes.trodAll_mk1 ⟨1, by simp [DataW.trod, htb, Value.cells]⟩
  ·rw [List.append_nil, hs ds hdl]
   refine Ib hl bel (fun t hm => ?_) hA
   have := List.all_eq_true.1 hps t hm
   simpa using this
  ·rw [List.append_nil, hs ds hdl, hv]
   rfl
end Go.LS
namespace Go.LS
theorem OkArgs.length : ∀ {tys : List (Bool × List Cty)} {vs : List LV}, OkArgs tys vs → vs.length = tys.length
 | [], vs, h => by cases h; rfl
 | (a, t) :: r, vs, h => by
  obtain ⟨ps, m, rfl, _, h2⟩ := h
  simp [h2.length]
end Go.LS
set_option linter.unusedVariables false
set_option linter.unusedSimpArgs false
namespace Go.LS
theorem E4 {size bytes : Nat} {E X : List (List PV)} {st : List LObj} {x : LV} (hx : D6 false st x = some X) (hE : Gj size E = true) (hX : Gj size X = true) (hne : X ≠ [])
  (hb : (E.length + X.length) * bytes ≤ 140737488355328) (hm : E.length + X.length ≤ 9223372036854775807) (h0 : 0 < size) :
  Am A3 [] st (.append false size bytes (.const (.tight E)) (.const x)) = some (.sl (E ++ X) st.length (E ++ X).length, st ++ [.spare size (E ++ X).length]) := by
 have : X.isEmpty = false := by cases X <;> simp_all
 refine Lx ?_
 simp [LX.ev, Fa, hx, hX, hE, this, P1 hb, maxLen, hm, h0]
theorem F6 {size bytes tg : Nat} {E X : List (List PV)} {st : List LObj} {x : LV} (hs : st[tg]? = some (.spare size E.length)) (hx : D6 false st x = some X) (hX : Gj size X = true)
  (hb : (E.length + X.length) * bytes ≤ 140737488355328) (hm : E.length + X.length ≤ 9223372036854775807) (h0 : 0 < size) :
  Am A3 [] st (.append false size bytes (.const (.sl E tg E.length)) (.const x)) = some (.sl (E ++ X) tg (E ++ X).length, st.set tg (.spare size (E ++ X).length)) := by
 by_cases hM : X = []
 ·subst hM
  refine Lx ?_
  simp [LX.ev, Fa, hx, hX, hs]
  obtain ⟨h1, h2⟩ := List.getElem?_eq_some_iff.1 hs
  conv => rhs; rw [← h2]
  simp
 ·have : X.isEmpty = false := by cases X <;> simp_all
  refine Lx ?_
  simp [LX.ev, Fa, hx, hX, hs, this, P1 hb, maxLen, hm, h0, hM]
theorem Iq {M : List UInt8} {i : Nat} {st : List LObj} (h : i < M.length) :
  Am A3 [] st (.index (.const (.p (.str M))) (.const (.p (.int .i64 ((i : Nat) : Int))))) = some (.p (.int .u8 ((M.getD i 0).toNat : Int)), st) := by
 simp [Am, LX.ev, LV.asInt, h]
end Go.LS
namespace Go.LS
theorem T1 : ∀ {es : List (List PV)}, (∀ e ∈ es, Bm [.int .u8] e) → ∃ b : List UInt8, es = bs b
 | [], _ => ⟨[], rfl⟩
 | e :: r, h => by
  obtain ⟨b, rfl⟩ := T1 (es := r) (fun x hx => h x (List.mem_cons_of_mem _ hx))
  obtain ⟨_, _, rfl, ⟨n, rfl, h0, h1⟩, rfl⟩ := h e (List.mem_cons_self ..)
  replace h0 : 0 ≤ n := h0
  replace h1 : n ≤ 255 := h1
  refine ⟨UInt8.ofNat n.toNat :: b, ?_⟩
  have := Tt h0 h1
  simp only [bs, List.map_cons, List.map_nil, List.cons.injEq] at this
  simp [bs]
  omega
theorem okArg {agg : Bool} {ts : List Cty} {r : List (Bool × List Cty)} {l : List LV} (h : OkArgs ((agg, ts) :: r) l) : ∃ ps m, l = Qx agg ps :: m ∧ Bm ts ps ∧ OkArgs r m := h
theorem okEnd {l : List LV} (h : OkArgs [] l) : l = [] := h
theorem okI {k : IntKind} {ts : List Cty} {ps : List PV} (h : Bm (.int k :: ts) ps) : ∃ n r, ps = .int k n :: r ∧ (k.min ≤ n ∧ n ≤ k.max) ∧ Bm ts r := by
 obtain ⟨_, r, rfl, ⟨n, rfl, h1⟩, h2⟩ := h
 exact ⟨n, r, rfl, h1, h2⟩
theorem okSl {u : List Cty} {b : Nat} {ts : List Cty} {ps : List PV} (h : Bm (.sl u b :: ts) ps) : ∃ n r, ps = .sl n :: r ∧ (n.length * b ≤ reachBytes ∧ n.length ≤ maxLen ∧ ∀ e ∈ n, Bm u e) ∧ Bm ts r := by
 obtain ⟨_, r, rfl, ⟨n, rfl, h1⟩, h2⟩ := h
 exact ⟨n, r, rfl, h1, h2⟩
theorem okNil {ps : List PV} (h : Bm [] ps) : ps = [] := h
end Go.LS
set_option linter.unusedVariables false
namespace Go.LS
def Ic {α σ ρ : Type} (f : σ → α → ρ ⊕ σ) (e : σ → ρ) : σ → List α → ρ
 | s, [] => e s
 | s, x :: r => match f s x with
  | .inl y => y
  | .inr s' => Ic f e s' r
theorem Ch {α : Type} {xs : List α} {i : Nat} {x : α} (h : xs[i]? = some x) : xs.drop i = x :: xs.drop (i + 1) := by
 obtain ⟨hi, rfl⟩ := List.getElem?_eq_some_iff.1 h
 exact List.drop_eq_getElem_cons hi
theorem Kj {α σ : Type} {lp : Bi} {k : Nat} {L : List Bool × Bg} (T : Nat → σ → List LV) (S : Nat → σ → List LObj) (xs : List α) (f : σ → α → (Cr × List LV × List LObj) ⊕ σ) (e : σ → Cr × List LV × List LObj) (Inv : Nat → σ → Prop)
  (hs : ∀ i s x, xs[i]? = some x → Inv i s → (∀ r, f s x = .inl r → LoopN lp k L (T i s) (S i s) r) ∧ ∀ s', f s x = .inr s' → Inv (i + 1) s' ∧ ∀ r, LoopN lp k L (T (i + 1) s') (S (i + 1) s') r → LoopN lp k L (T i s) (S i s) r)
  (he : ∀ s, Inv xs.length s → LoopN lp k L (T xs.length s) (S xs.length s) (e s)) (s0 : σ) (h0 : Inv 0 s0) : LoopN lp k L (T 0 s0) (S 0 s0) (Ic f e s0 xs) := by
 have key : ∀ n i s, n + i = xs.length → Inv i s → LoopN lp k L (T i s) (S i s) (Ic f e s (xs.drop i)) := by
  intro n
  induction n with
  | zero =>
   intro i s h hi
   obtain rfl : i = xs.length := by omega
   rw [List.drop_length]
   exact he s hi
  | succ n ih =>
   intro i s h hi
   have hx : xs[i]? = some (xs[i]'(by omega)) := List.getElem?_eq_getElem (by omega)
   rw [Ch hx]
   obtain ⟨h1, h2⟩ := hs i s _ hx hi
   simp only [Ic]
   cases hf : f s (xs[i]'(by omega)) with
   | inl r => exact h1 r hf
   | inr s' =>
    obtain ⟨h3, h4⟩ := h2 s' hf
    exact h4 _ (ih (i + 1) s' (by omega) h3)
 have := key xs.length 0 s0 (by omega) h0
 rwa [List.drop_zero] at this
theorem Ea {α : Type} {lp : Bi} {k : Nat} {L : List Bool × Bg} (T : Nat → List LV) (S : List LObj) (xs : List α) (p : α → Bool) {rF rT : Cr × List LV × List LObj}
  (hF : ∀ i x, xs[i]? = some x → p x = false → LoopN lp k L (T i) S rF) (hS : ∀ i x r, xs[i]? = some x → p x = true → LoopN lp k L (T (i + 1)) S r → LoopN lp k L (T i) S r)
  (hE : LoopN lp k L (T xs.length) S rT) : LoopN lp k L (T 0) S (if xs.all p = true then rT else rF) := by
 have := Kj (σ := Unit) (fun i _ => T i) (fun _ _ => S) xs (fun _ x => if p x = true then .inr () else .inl rF) (fun _ => rT) (fun _ _ => True)
  (fun i s x hx _ => by
    cases hp : p x with
    | true => simp only [if_true]; exact ⟨fun r h => (by cases h), fun s' _ => ⟨trivial, fun r hr => hS i x r hx hp hr⟩⟩
    | false => simp only [Bool.false_eq_true, if_false]; exact ⟨fun r h => (by cases h; exact hF i x hx hp), fun s' h => (by cases h)⟩)
  (fun _ _ => hE) () trivial
 have e : ∀ l : List α, Ic (fun (_ : Unit) x => if p x = true then (.inr () : (Cr × List LV × List LObj) ⊕ Unit) else .inl rF) (fun _ => rT) () l = if l.all p = true then rT else rF := by
  intro l
  induction l with
  | nil => rfl
  | cons x r ih =>
   have e1 : (x :: r).all p = (p x && r.all p) := rfl
   simp only [Ic, e1]
   by_cases hp : p x = true
   ·simp only [hp, if_true, Bool.true_and]; exact ih
   ·simp only [hp, Bool.false_and, Bool.false_eq_true, if_false]
 rw [e] at this
 exact this
theorem C3 {α σ : Type} {lp : Bi} {k : Nat} {L : List Bool × Bg} (T : Nat → σ → List LV) (S : Nat → σ → List LObj) (xs : List α) (f : σ → α → σ) (e : σ → Cr × List LV × List LObj) (Inv : Nat → σ → Prop)
  (hS : ∀ i s x r, xs[i]? = some x → Inv i s → Inv (i + 1) (f s x) ∧ (LoopN lp k L (T (i + 1) (f s x)) (S (i + 1) (f s x)) r → LoopN lp k L (T i s) (S i s) r))
  (hE : ∀ s, Inv xs.length s → LoopN lp k L (T xs.length s) (S xs.length s) (e s)) (s0 : σ) (h0 : Inv 0 s0) : LoopN lp k L (T 0 s0) (S 0 s0) (e (xs.foldl f s0)) := by
 have := Kj T S xs (fun s x => .inr (f s x)) e Inv (fun i s x hx hi => ⟨fun r h => (by cases h), fun s' h => (by cases h; exact ⟨(hS i s x (e s) hx hi).1, fun r hr => (hS i s x r hx hi).2 hr⟩)⟩) hE s0 h0
 have e2 : ∀ (l : List α) s, Ic (fun s x => (.inr (f s x) : (Cr × List LV × List LObj) ⊕ σ)) e s l = e (l.foldl f s) := by
  intro l
  induction l with
  | nil => intro s; rfl
  | cons x r ih => intro s; simp only [Ic, List.foldl_cons]; exact ih _
 rw [e2] at this
 exact this
theorem LoopAt.onG {lp : Bi} {N k : Nat} {mask : List Bool} {c : Bg} {t t1 t2 t3 : List LV} {st st1 st3 : List LObj} {os os' : Os} {ps : List Prop} {r : Cr × List LV × List LObj}
  (h : Ck lp k N c t st os = some (.normal, t1, st1, ps, os')) (hk : kill mask t1 = t2) (hg : gc k t2 st1 = some (t3, st3)) (hp : Conj ps) (hr : LoopAt lp k mask c t3 st3 r) : LoopAt lp k mask c t st r := by
 refine LoopAt.on (N := N) (os := os) (ps := ps) (t' := t3) (st' := st3) ?_ hp hr
 unfold Ki
 rw [h]
 simp only [hk, hg]
theorem nx {i : Nat} (h : i ≤ 1000000000000000) : IntKind.wrap .i64 ((i : Int) + 1) = ((i + 1 : Nat) : Int) := by
 rw [A8 (by omega) (by omega)]; rfl
theorem Hi (a b : Int) : IntKind.wrap .i64 (IntKind.wrap .i64 a + b) = IntKind.wrap .i64 (a + b) := by
 simp only [IntKind.wrap, IntKind.bits, IntKind.signed]
 simp
 omega
theorem Ft (a b : Int) : IntKind.wrap .i64 (a + IntKind.wrap .i64 b) = IntKind.wrap .i64 (a + b) := by
 rw [Int.add_comm, Hi, Int.add_comm]
end Go.LS
set_option linter.unusedVariables false
set_option linter.unusedSimpArgs false
namespace Go.LS
inductive Val where
 | mk (kind int : Int) (text : List UInt8) (items : List Val) (names : List (List UInt8))
 deriving Inhabited
def Ab (ns : List (List UInt8)) : List (List PV) := ns.map fun x => [.str x]
mutual
def O5 : Val → List PV
 | .mk k n s is ns => [.int .i64 k, .int .i64 n, .str s, .sl (Ad is), .sl (Ab ns)]
def Ad : List Val → List (List PV)
 | [] => []
 | v :: r => O5 v :: Ad r
end
abbrev Eo : Val → LV
 | .mk k n s is ns => .agg [.p (.int .i64 k), .p (.int .i64 n), .p (.str s), .p (.sl (Ad is)), .p (.sl (Ab ns))]
theorem Fu : ∀ (l : List Val), Ad l = l.map O5
 | [] => rfl
 | v :: r => by rw [Ad, Fu r]; rfl
theorem Au (l : List Val) : (Ad l).length = l.length := by rw [Fu, List.length_map]
theorem Aq (l : List (List UInt8)) : (Ab l).length = l.length := by simp [Ab]
theorem B2 {l : List Val} {i : Nat} {v : Val} (h : l[i]? = some v) : (Ad l)[i]? = some (O5 v) := by rw [Fu, List.getElem?_map, h]; rfl
theorem A1 {l : List (List UInt8)} {i : Nat} (h : i < l.length) : (Ab l)[i]? = some [.str (l.getD i [])] := by
 simp [Ab, h]
theorem Val.ind {P : Val → Prop} (h : ∀ k n s is ns, (∀ v ∈ is, P v) → P (.mk k n s is ns)) : ∀ v, P v
 | .mk k n s is ns => h k n s is ns fun v hv => Val.ind h v
def A2 (s : List UInt8) : Bool := !(s.contains 46) && decide (1 ≤ s.length) && decide (s.length ≤ 32) && !(s.headD 0 == 36)
def Bx : List (List UInt8) → Bool
 | [] => false
 | x :: r => r.contains x || Bx r
def De (k n : Int) (s : List UInt8) (l : Nat) (ns : List (List UInt8)) : Bool :=
 if k == 1 then n == 0 && s == [] && decide (l = 0) && decide (ns.length = 0)
 else if k == 2 then (decide (0 ≤ n) && decide (n ≤ 1)) && s == [] && decide (l = 0) && decide (ns.length = 0)
 else if k == 3 then s == [] && decide (l = 0) && decide (ns.length = 0)
 else if k == 4 || k == 5 then n == 0 && decide (l = 0) && decide (ns.length = 0)
 else if k == 6 then n == 0 && s == [] && decide (ns.length = 0)
 else if k == 7 then n == 0 && s == [] && decide (ns.length = l) && !Bx ns
 else false
def Bv (ns : List (List UInt8)) : Bool := ns.all A2 && !Bx ns
mutual
def Bw : Val → Bool
 | .mk k n s is ns => Bk is && ns.all A2 && De k n s is.length ns
def Bk : List Val → Bool
 | [] => true
 | v :: r => Bw v && Bk r
end
mutual
def Ax : Val → Int
 | .mk _ _ _ is _ => Bo is + 1
def Bo : List Val → Int
 | [] => 0
 | v :: r => max (Ax v) (Bo r)
end
theorem Mr : ∀ (l : List Val), Bk l = l.all Bw
 | [] => rfl
 | v :: r => by rw [Bk, Mr r]; rfl
def zzN (x : Int) : Nat := if 0 ≤ x then (2 * x).toNat else (-(2 * x) - 1).toNat
def Dw (n : Nat) : Int := ((As n).length : Int)
def C5 (s : List UInt8) : Int := ((As s.length).length : Int) + s.length
mutual
def Dx : Val → Int
 | .mk k n s is ns => if k == 2 then 2 else if k == 3 then 1 + ((As (zzN n)).length : Int) else if k == 4 || k == 5 then 1 + C5 s
  else if k == 6 then 1 + Dw is.length + Gn is else if k == 7 then 1 + Dw is.length + Gn is + (ns.map C5).sum else 1
def Gn : List Val → Int
 | [] => 0
 | v :: r => Dx v + Gn r
end
def Bu (v : Val) : Int := IntKind.wrap .i64 (Dx v)
mutual
def nodesV : Int → Val → Int
 | d, .mk _ _ _ is ns => if d > 40 then 1048576 else Xr (IntKind.wrap .i64 (d + 1)) (IntKind.wrap .i64 (1 + (ns.length : Int))) is
def Xr : Int → Int → List Val → Int
 | _, m, [] => m
 | d, m, v :: r => if m < 65536 then Xr d (IntKind.wrap .i64 (m + nodesV d v)) r else m
end
mutual
def E5 : Val → Val → Bool
 | .mk k n s is ns, .mk k' n' s' is' ns' => (k == k') && (n == n') && (s == s') && Do is is' && (ns == ns')
def Do : List Val → List Val → Bool
 | [], [] => true
 | v :: r, v' :: r' => E5 v v' && Do r r'
 | _, _ => false
end
def Xs (a b : Int) : Int := if a < b then -1 else if a > b then 1 else 0
def ordS (a b : List UInt8) : Int := if Op.bytesLess a b = true then -1 else if (!(Op.bytesLess a b || a == b)) = true then 1 else 0
mutual
def cmpV : Val → Val → Int
 | .mk k n s is ns, .mk k' n' s' is' ns' => if Xs k k' ≠ 0 then Xs k k' else if Xs n n' ≠ 0 then Xs n n' else if ordS s s' ≠ 0 then ordS s s' else
  match cmpL (k == 7) is is' ns ns' with
  | some c => c
  | none => Xs is.length is'.length
def cmpL : Bool → List Val → List Val → List (List UInt8) → List (List UInt8) → Option Int
 | d, v :: r, w :: q, ns, ms => if d = true ∧ ordS (ns.headD []) (ms.headD []) ≠ 0 then some (ordS (ns.headD []) (ms.headD [])) else
  if cmpV v w ≠ 0 then some (cmpV v w) else cmpL d r q ns.tail ms.tail
 | _, _, _, _, _ => none
end
def Av (v : Val) : Int := if Bw v = true then (if Ax v > 8 then 21 else if Bu v > 4096 then 22 else 0) else 20
mutual
def okV : Val → Prop
 | .mk k n s is ns => (-9223372036854775808 ≤ k ∧ k ≤ 9223372036854775807) ∧ (-9223372036854775808 ≤ n ∧ n ≤ 9223372036854775807) ∧ s.length ≤ 140737488351232 ∧ is.length * 80 ≤ 140737488355328 ∧ ns.length * 16 ≤ 140737488355328 ∧ (∀ x ∈ ns, x.length ≤ 140737488351232) ∧ okL is
def okL : List Val → Prop
 | [] => True
 | v :: r => okV v ∧ okL r
end
theorem Ls : ∀ {l : List Val}, okL l ↔ ∀ v ∈ l, okV v
 | [] => by simp [okL]
 | v :: r => by rw [okL, Ls (l := r)]; simp
theorem O6 (a b : List Val) : Ad (a ++ b) = Ad a ++ Ad b := by simp [Fu]
theorem K7 (l : List (List UInt8)) : Gj 1 (Ab l) = true := by
 simp only [Gj, List.all_eq_true, Ab, List.mem_map]
 rintro _ ⟨v, _, rfl⟩
 rfl
theorem F7 {tg : Nat} {es : List Val} {k n : Int} {s : List UInt8} {is : List Val} {ns : List (List UInt8)} {st : List LObj} (hs : st[tg]? = some (.spare 5 (List.length (Ad es)))) (hb : (es.length + 1) * 80 ≤ 140737488355328) :
  Am A3 [] st (.append false 5 80 (.const (.sl (Ad es) tg (List.length (Ad es)))) (.const (.tight [[.int .i64 k, .int .i64 n, .str s, .sl (Ad is), .sl (Ab ns)]]))) =
   some (.sl (Ad (es ++ [.mk k n s is ns])) tg (List.length (Ad (es ++ [.mk k n s is ns]))), st.set tg (.spare 5 (List.length (Ad (es ++ [.mk k n s is ns]))))) := by
 have := F6 (size := 5) (bytes := 80) (tg := tg) (E := Ad es) (X := [[.int .i64 k, .int .i64 n, .str s, .sl (Ad is), .sl (Ab ns)]]) (st := st) (x := .tight [[.int .i64 k, .int .i64 n, .str s, .sl (Ad is), .sl (Ab ns)]]) hs rfl rfl
  (by rw [Au]; exact hb) (by rw [Au]; simp; omega) (by decide)
 rw [this, O6]
 rfl
theorem F8 {k n : Int} {s : List UInt8} {is : List Val} {ns : List (List UInt8)} {st : List LObj} :
  Am A3 [] st (.append false 5 80 (.const (.tight [])) (.const (.tight [[.int .i64 k, .int .i64 n, .str s, .sl (Ad is), .sl (Ab ns)]]))) =
   some (.sl (Ad [.mk k n s is ns]) st.length (List.length (Ad [.mk k n s is ns])), st ++ [.spare 5 (List.length (Ad [.mk k n s is ns]))]) := by
 exact E4 (size := 5) (bytes := 80) (E := []) (X := [[.int .i64 k, .int .i64 n, .str s, .sl (Ad is), .sl (Ab ns)]]) (st := st) (x := .tight [[.int .i64 k, .int .i64 n, .str s, .sl (Ad is), .sl (Ab ns)]]) rfl rfl rfl (by simp) (by simp) (by simp) (by decide)
def By (ms : List (List UInt8)) : List (PV × LV) := ms.map fun x => (.str x, .p (.bool true))
theorem Ms (x : List UInt8) : ∀ (ms : List (List UInt8)), Gs (.str x) (By ms) = some (if ms.contains x then some (.p (.bool true)) else none)
 | [] => rfl
 | y :: r => by
  have ih := Ms x r
  rw [By] at ih
  simp only [By, List.map_cons, Gs, Jx]
  by_cases h : x = y
  ·subst h; simp
  ·have h2 : (x == y) = false := by simpa using h
   rw [h2]
   simp only [ih, List.contains_cons, h2, Bool.false_or]
theorem N8 (x : List UInt8) : ∀ (ms : List (List UInt8)), ms.contains x = false → M9 (.str x) (.p (.bool true)) (By ms) = some (By (ms ++ [x]))
 | [], _ => rfl
 | y :: r, h => by
  rw [List.contains_cons, Bool.or_eq_false_iff] at h
  have ih := N8 x r h.2
  rw [By] at ih
  simp only [By, List.map_cons, M9, Jx, h.1, ih, List.cons_append]
theorem Mt (ms : List (List UInt8)) : (LObj.map (By ms)).refs = [] := by
 simp only [LObj.refs, By, List.flatMap_map]
 induction ms with
 | nil => rfl
 | cons x r ih => simp [LV.refs]
theorem Uz (r : Nat → Nat) (ms : List (List UInt8)) : LObj.ren r (.map (By ms)) = .map (By ms) := by
 simp [LObj.ren, By, LV.ren]
theorem gc_seen {ms : List (List UInt8)} {vs : List LV} (h1 : vs.flatMap LV.refs = [0]) (h2 : vs.map (LV.ren fun q => [0].idxOf q) = vs) : gc 0 vs [.map (By ms)] = some (vs, [.map (By ms)]) := by
 have hr : Th 0 [.map (By ms)] (vs.flatMap LV.refs) = [0] := by
  rw [h1]
  unfold Th
  rw [show (100000 : Nat) = 99998 + 1 + 1 from rfl]
  simp [Gt, Mt]
 unfold gc
 simp only [hr]
 rw [h1, h2]
 simp [Gu, Mt, sub, Uz]
theorem N9 {st : List LObj} {ms : List (List UInt8)} {x : List UInt8} {o : Nat} (h : st[o]? = some (.map (By ms))) :
  Am A3 [] st (.lookup .str (.p (.bool false)) false (.const (.mp o)) (.const (.p (.str x)))) = some (.p (.bool (ms.contains x)), st) := by
 simp only [Am, LX.ev, LV.toPV, KK.fits, Tg, h, Ms]
 cases ms.contains x <;> rfl
theorem Xt {st : List LObj} {ms : List (List UInt8)} {x : List UInt8} {o : Nat} (h : st[o]? = some (.map (By ms))) (hx : ms.contains x = false) :
  Am A3 [] st (.mapUpdate .str (.const (.mp o)) (.const (.p (.str x))) (.const (.p (.bool true)))) = some (.tup [], st.set o (.map (By (ms ++ [x])))) := by
 simp only [Am, LX.ev, LV.toPV, KK.fits, h, N8 x ms hx]
 rfl
end Go.LS
set_option linter.unusedVariables false
namespace Go.LS
def u8 (x : Int) : UInt8 := UInt8.ofNat (Int.toNat (IntKind.wrap .u8 x))
mutual
def encC : Val → List UInt8
 | .mk k n s is ns => u8 k :: (if k == 1 then [] else if k == 2 then [u8 n] else if k == 3 then As (zzN n) else if k == 4 || k == 5 then As s.length ++ s
  else As is.length ++ encL (k == 7) is ns)
def encL : Bool → List Val → List (List UInt8) → List UInt8
 | _, [], _ => []
 | d, v :: r, ns => (if d then As (ns.headD []).length ++ ns.headD [] else []) ++ encC v ++ encL d r ns.tail
end
theorem O7 (a b : List (List UInt8)) : Ab (a ++ b) = Ab a ++ Ab b := by simp [Ab]
theorem F9 {tg : Nat} {es : List (List UInt8)} {s : List UInt8} {st : List LObj} (hs : st[tg]? = some (.spare 1 (List.length (Ab es)))) (hb : (es.length + 1) * 16 ≤ 140737488355328) :
  Am A3 [] st (.append false 1 16 (.const (.sl (Ab es) tg (List.length (Ab es)))) (.const (.tight [[.str s]]))) =
   some (.sl (Ab (es ++ [s])) tg (List.length (Ab (es ++ [s]))), st.set tg (.spare 1 (List.length (Ab (es ++ [s]))))) := by
 have := F6 (size := 1) (bytes := 16) (tg := tg) (E := Ab es) (X := [[.str s]]) (st := st) (x := .tight [[.str s]]) hs rfl rfl
  (by rw [Aq]; exact hb) (by rw [Aq]; simp; omega) (by decide)
 rw [this, O7]
 rfl
theorem Ga {s : List UInt8} {st : List LObj} :
  Am A3 [] st (.append false 1 16 (.const (.tight [])) (.const (.tight [[.str s]]))) =
   some (.sl (Ab [s]) st.length (List.length (Ab [s])), st ++ [.spare 1 (List.length (Ab [s]))]) := by
 exact E4 (size := 1) (bytes := 16) (E := []) (X := [[.str s]]) (st := st) (x := .tight [[.str s]]) rfl rfl rfl (by simp) (by simp) (by simp) (by decide)
end Go.LS
set_option linter.unusedVariables false
namespace Go.LS
theorem My (n : Nat) (ms : List (List UInt8)) : (Ab ms).take n = Ab (ms.take n) := by simp [Ab, List.map_take]
theorem U8 (ms : List (List UInt8)) : ((Ab ms).all fun e => e.length == 1) = true := K7 ms
theorem O8 {ms : List (List UInt8)} {n : Nat} {st : List LObj} (h : n ≤ ms.length) :
  Am A3 [] st (.slice 1 (.const (.p (.sl (Ab ms)))) none (some (.const (.p (.int .i64 (n : Int))))) none) = some (.p (.sl (Ab (ms.take n))), st) := by
 have hl := Aq ms
 have e1 : (Es 1 st (.p (.sl (Ab ms))) none (some (.p (.int .i64 (n : Int)))) none) = some (.p (.sl (Ab (ms.take n)))) := by
  simp only [Es, LV.asSl, U8, if_true, Er, bnd, Option.isSome_none, Bool.false_eq_true, false_and, if_false, Option.isNone_some, hl]
  rw [if_pos (by omega)]
  simp only [Int.toNat_natCast, List.drop_zero, Option.isNone_none, true_and]
  by_cases hn : n = ms.length ∧ 0 < ms.length
  ·rw [if_pos hn]
   rw [← My, hn.1, ← hl, List.take_length]
  ·rw [if_neg hn, My]
 simp only [Am, LX.ev, Option.map_none, Option.map_some, e1]
end Go.LS
set_option linter.unusedVariables false
namespace Go.LS
def Bl (ns : List (List UInt8)) : Bool := decide (1 ≤ ns.length) && decide (ns.length ≤ 8) && ns.all A2
structure OpS where
 k : Int
 p : List (List UInt8)
 v : Val
 t : List (List UInt8)
def Ll (o : OpS) : List PV := [.int .i64 o.k, .sl (Ab o.p)] ++ O5 o.v ++ [.sl (Ab o.t)]
def Ap (l : List OpS) : List (List PV) := l.map Ll
theorem Bd (l : List OpS) : (Ap l).length = l.length := by simp [Ap]
theorem Bj {l : List OpS} {i : Nat} {o : OpS} (h : l[i]? = some o) : (Ap l)[i]? = some (Ll o) := by simp [Ap, h]
def Bt : Val → Bool
 | .mk k n s is ns => k == 0 && n == 0 && s == [] && decide (is.length + ns.length = 0)
def K8 : Val → Int
 | .mk k _ _ _ _ => k
def B0 (o : OpS) : Bool :=
 Bl o.p && (if o.k == 2 then Bt o.v && decide (o.t.length = 0) else if o.k == 6 then Bt o.v && Bl o.t
  else if o.k == 3 then K8 o.v == 3 && Av o.v == 0 && decide (o.t.length = 0)
  else if o.k == 1 || o.k == 4 || o.k == 5 || o.k == 7 || o.k == 8 then Av o.v == 0 && decide (o.t.length = 0) else false)
def Ba : List OpS → List (List (List UInt8))
 | [] => []
 | o :: r => if o.k == 6 then o.p :: o.t :: Ba r else o.p :: Ba r
def C6 (a b : List (List UInt8)) : Bool := List.isPrefixOf a b || List.isPrefixOf b a
def Df : List (List (List UInt8)) → List (List (List UInt8)) → Bool
 | _, [] => false
 | seen, p :: r => seen.any (C6 p) || Df (seen ++ [p]) r
end Go.LS
set_option linter.unusedVariables false
namespace Go.LS
theorem Hv {α : Type} {lp : Bi} {k : Nat} {L : List Bool × Bg} (T : Nat → List LV) (S : List LObj) (xs : List α) (p : α → Bool) {rT : Cr × List LV × List LObj} (rF : Nat → Cr × List LV × List LObj)
  (hF : ∀ i x, xs[i]? = some x → p x = false → LoopN lp k L (T i) S (rF i)) (hS : ∀ i x r, xs[i]? = some x → p x = true → LoopN lp k L (T (i + 1)) S r → LoopN lp k L (T i) S r)
  (hE : LoopN lp k L (T xs.length) S rT) : ∃ m, LoopN lp k L (T 0) S (if xs.all p = true then rT else rF m) := by
 have key : ∀ n i, n + i = xs.length → ∃ m, LoopN lp k L (T i) S (if (xs.drop i).all p = true then rT else rF m) := by
  intro n
  induction n with
  | zero =>
   intro i h
   obtain rfl : i = xs.length := by omega
   rw [List.drop_length]
   exact ⟨0, hE⟩
  | succ n ih =>
   intro i h
   have hx : xs[i]? = some (xs[i]'(by omega)) := List.getElem?_eq_getElem (by omega)
   rw [Ch hx, List.all_cons]
   cases hp : p (xs[i]'(by omega)) with
   | true =>
    obtain ⟨m, hm⟩ := ih (i + 1) (by omega)
    exact ⟨m, hS i _ _ hx hp (by simpa using hm)⟩
   | false => exact ⟨i, by simpa using hF i _ hx hp⟩
 have := key xs.length 0 (by omega)
 rwa [List.drop_zero] at this
theorem Gb {α : Type} (l : List α) (p : α → Bool) : l.any (fun x => !p x) = !l.all p := by
 induction l with
 | nil => rfl
 | cons x r ih => simp [ih]
end Go.LS
set_option linter.unusedVariables false
namespace Go.LS
abbrev Pt := List (List UInt8)
def Ah (l : List Pt) : List (List PV) := l.map fun p => [.sl (Ab p)]
theorem Bq (l : List Pt) : (Ah l).length = l.length := by simp [Ah]
theorem Br {l : List Pt} {i : Nat} (h : i < l.length) : (Ah l)[i]? = some [.sl (Ab (l.getD i []))] := by simp [Ah, h]
theorem O9 (a b : List Pt) : Ah (a ++ b) = Ah a ++ Ah b := by simp [Ah]
theorem Mz (n : Nat) (l : List Pt) : (Ah l).take n = Ah (l.take n) := by simp [Ah, List.map_take]
theorem Vc (l : List Pt) : ((Ah l).all fun e => e.length == 1) = true := by simp [Ah]
theorem Pa (a b : List OpS) : Ap (a ++ b) = Ap a ++ Ap b := by simp [Ap]
theorem K9 {l : List Pt} {n : Nat} {st : List LObj} (h : n ≤ l.length) :
  Am A3 [] st (.slice 1 (.const (.p (.sl (Ah l)))) none (some (.const (.p (.int .i64 (n : Int))))) none) = some (.p (.sl (Ah (l.take n))), st) := by
 have hl := Bq l
 have e1 : (Es 1 st (.p (.sl (Ah l))) none (some (.p (.int .i64 (n : Int)))) none) = some (.p (.sl (Ah (l.take n)))) := by
  simp only [Es, LV.asSl, Vc, if_true, Er, bnd, Option.isSome_none, Bool.false_eq_true, false_and, if_false, Option.isNone_some, hl]
  rw [if_pos (by omega)]
  simp only [Int.toNat_natCast, List.drop_zero, Option.isNone_none, true_and]
  by_cases hn : n = l.length ∧ 0 < l.length
  ·rw [if_pos hn]
   rw [← Mz, hn.1, ← hl, List.take_length]
  ·rw [if_neg hn, Mz]
 simp only [Am, LX.ev, Option.map_none, Option.map_some, e1]
theorem C0 {tg : Nat} {es : List Pt} {p : Pt} {st : List LObj} (hs : st[tg]? = some (.spare 1 (List.length (Ah es)))) (hb : es.length + 1 ≤ 5000000000000) :
  Am A3 [] st (.append false 1 24 (.const (.sl (Ah es) tg (List.length (Ah es)))) (.const (.tight [[.sl (Ab p)]]))) =
   some (.sl (Ah (es ++ [p])) tg (List.length (Ah (es ++ [p]))), st.set tg (.spare 1 (List.length (Ah (es ++ [p]))))) := by
 have := F6 (size := 1) (bytes := 24) (tg := tg) (E := Ah es) (X := [[.sl (Ab p)]]) (st := st) (x := .tight [[.sl (Ab p)]]) hs rfl rfl
  (by rw [Bq]; simp; omega) (by rw [Bq]; simp; omega) (by decide)
 rw [this, O9]
 rfl
theorem Gc {p : Pt} {st : List LObj} :
  Am A3 [] st (.append false 1 24 (.const (.tight [])) (.const (.tight [[.sl (Ab p)]]))) =
   some (.sl (Ah [p]) st.length (List.length (Ah [p])), st ++ [.spare 1 (List.length (Ah [p]))]) := by
 exact E4 (size := 1) (bytes := 24) (E := []) (X := [[.sl (Ab p)]]) (st := st) (x := .tight [[.sl (Ab p)]]) rfl rfl rfl (by simp) (by simp) (by simp) (by decide)
theorem Ym (l : List OpS) : Gj 8 (Ap l) = true := by
 induction l with
 | nil => rfl
 | cons o r ih =>
  obtain ⟨k, p, ⟨vk, vn, vs, vi, vns⟩, t⟩ := o
  simp only [Ap, List.map_cons, Gj, List.all_cons] at ih ⊢
  rw [ih]; rfl
theorem Gd {tg : Nat} {es : List OpS} {o : OpS} {st : List LObj} (hs : st[tg]? = some (.spare 8 (List.length (Ap es)))) (hb : es.length + 1 ≤ 500000000000) :
  Am A3 [] st (.append false 8 136 (.const (.sl (Ap es) tg (List.length (Ap es)))) (.const (.tight [Ll o]))) =
   some (.sl (Ap (es ++ [o])) tg (List.length (Ap (es ++ [o]))), st.set tg (.spare 8 (List.length (Ap (es ++ [o]))))) := by
 have := F6 (size := 8) (bytes := 136) (tg := tg) (E := Ap es) (X := [Ll o]) (st := st) (x := .tight [Ll o]) hs rfl (Ym [o])
  (by rw [Bd]; simp; omega) (by rw [Bd]; simp; omega) (by decide)
 rw [this, Pa]
 rfl
theorem Ge {o : OpS} {st : List LObj} :
  Am A3 [] st (.append false 8 136 (.const (.tight [])) (.const (.tight [Ll o]))) =
   some (.sl (Ap [o]) st.length (List.length (Ap [o])), st ++ [.spare 8 (List.length (Ap [o]))]) := by
 exact E4 (size := 8) (bytes := 136) (E := []) (X := [Ll o]) (st := st) (x := .tight [Ll o]) rfl rfl (Ym [o]) (by simp) (by simp) (by simp) (by decide)
def Pb : Val → List (List UInt8) | .mk _ _ _ _ ns => ns
def Bp (rep : Bool) (d : Val) (ops : List OpS) : Int :=
 if rep then (if decide (0 < ops.length) || K8 d != 7 || Av d != 0 then 72 else if (Pb d).contains ([95, 105, 100] : List UInt8) then 70 else 0)
 else if !Bt d || decide (ops.length < 1) || decide (16 < ops.length) || !ops.all B0 then 72
 else if (Ba ops).any (fun q => q.getD 0 [] == [95, 105, 100]) then 70 else if Df [] (Ba ops) then 71 else 0
def Ci (rep : Bool) (d : Val) (ops : List OpS) : Bool :=
 if rep then decide (ops.length = 0) && K8 d == 7 && Av d == 0 else Bt d && !decide (ops.length < 1) && !decide (16 < ops.length) && ops.all B0
end Go.LS
set_option linter.unusedVariables false
namespace Go.LS
end Go.LS

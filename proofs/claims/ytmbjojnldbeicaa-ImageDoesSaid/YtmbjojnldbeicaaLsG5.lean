/- A small semantics of loaded Go code that the kernel can run, part 5. -/
import Derived.Test.YtmbjojnldbeicaaLsG4
import Derived.Lib.Bytealg
import Derived.Test.YtmbjojnldbeicaaLsG1
import Derived.SizedLaws
import Derived.OpenShut
import Derived.Carry
import Derived.ChangeShapes
set_option linter.unusedVariables false
namespace Go.LS
def lpS (tab : List (Option LFn)) (weak wres : List Nat) (sm : List (Nat × (List LV → List LObj → Option (LV × List LObj)))) : Bs :=
 { fns := fun f => match tab[f]? with | some x => x | none => none, summ := fun f => (sm.find? fun x => x.1 == f).map (·.2), weak := fun f => weak.contains f, wres := fun f => wres.contains f }
theorem prS {P : Program} (tab : List (Option LFn)) (weak wres : List Nat) (sm : List (Nat × (List LV → List LObj → Option (LV × List LObj)))) (hs : ∀ x ∈ sm, P7 P x.1 x.2) (h : AllFR P 0 tab) : PR P (lpS tab weak wres sm) where
 fns f lf hf := by
  simp only [lpS] at hf
  split at hf
  ·rename_i x hx
   subst hf
   have := h.get f lf hx
   simpa using this
  ·cases hf
 summ f g h := by
  simp only [lpS, Option.map_eq_some_iff] at h
  obtain ⟨⟨f', g'⟩, h1, rfl⟩ := h
  have h2 := List.find?_some h1
  simp only [beq_iff_eq] at h2
  subst h2
  exact hs _ (List.mem_of_find?_eq_some h1)
def Fw (args : List LV) (st : List LObj) : Option (LV × List LObj) :=
 match args with
 | [.p (.str s), .p (.int .u8 c)] => some (.p (.int .i64 (Lib.indexByte s c.toNat.toUInt8)), st)
 | _ => none
theorem args2 {G : Gh} {p q : PV} {us : Array Value} (h : ArgsR G [.p p, .p q] us) : ∃ a b, us = #[a, b] ∧ VP G.F p a ∧ VP G.F q b := by
 have h1 := h.1
 simp only [List.length_cons, List.length_nil] at h1
 obtain ⟨l⟩ := us
 match l, h1 with
 | [a, b], _ =>
  have e1 := h.2 0 _ rfl
  have e2 := h.2 1 _ rfl
  refine ⟨a, b, rfl, ?_, ?_⟩
  ·cases e1; assumption
  ·cases e2; assumption
theorem Oy {P : Program} {f : FuncId} (hp : Fa P f = true)
  (h : ∀ (s : ByteArray) (c : Int) (w : World), Calls P f #[.string s, .int .u8 c] w fun e w' => e = .returned (.int .i64 (Lib.indexByte s.data.toList c.toNat.toUInt8)) ∧ w' = w) : P7 P f Fw := by
 refine ⟨hp, fun args st res st' hg G w us hw ha => ?_⟩
 unfold Fw at hg
 split at hg
 ·rename_i s c
  cases hg
  obtain ⟨a, b, rfl, h1, h2⟩ := args2 ha
  cases h1
  cases h2
  refine (h _ c w).mono ?_
  rintro e w' ⟨rfl, rfl⟩
  exact ⟨_, G, rfl, hw, .p (.int _ _), (Ext.refl _ _ _).to0⟩
 ·cases hg
end Go.LS
set_option linter.unusedVariables false
set_option linter.unusedSimpArgs false
namespace Go.LS
abbrev Fx (c c' : CallF) : Prop := ∀ f a s r, c f a s = some r → c' f a s = some r ∧ c'.weak f = c.weak f
theorem Hb {c c' : CallF} (h : Fx c c') {f : FuncId} {args : List LV} {st : List LObj} {r : LV × List LObj} (hr : Cx c f args st = some r) : Cx c' f args st = some r := by
 unfold Cx at hr ⊢
 simp only at hr ⊢
 split at hr
 ·rename_i hcl
  split at hr
  ·rename_i v st' hc
   obtain ⟨h1, h2⟩ := h _ _ _ _ hc
   rw [h2, if_pos hcl, h1]
   exact hr
  ·cases hr
 ·cases hr
theorem L9 {c c' : CallF} (h : Fx c c') : Fx (Fk c) (Fk c') := by
 intro f a s r hr
 unfold Fk at hr ⊢
 simp only at hr ⊢
 split at hr
 ·rename_i v st' hc
  obtain ⟨h1, h2⟩ := h _ _ _ _ hc
  rw [h1]
  exact ⟨hr, h2⟩
 ·cases hr
theorem H4 {c c' : CallF} (h : Fx c c') {t : List LV} {st : List LObj} {op : LOp} {r : LV × List LObj} (hr : Ao c t st op = some r) : Ao c' t st op = some r := by
 cases op
 case call f args => simp only [Ao] at hr ⊢; exact Hb h hr
 case callz f args => simp only [Ao] at hr ⊢; exact Hb (L9 h) hr
 case callv f args =>
  simp only [Ao] at hr ⊢
  split at hr
  ·exact Hb h hr
  ·cases hr
 all_goals exact hr
theorem Jc {c c' : CallF} (h : Fx c c') {t : List LV} {st : List LObj} {o : D4} {r : LV × List LObj} (hr : C1 c t st o = some r) : C1 c' t st o = some r := by
 unfold C1 at hr ⊢
 split at hr
 ·exact H4 h hr
 ·exact hr
 ·cases hr
theorem Ma {c c' : CallF} (h : Fx c c') : ∀ {l : List D4} {t : List LV} {st : List LObj} {r : List LV × List LObj}, Gc c l t st = some r → Gc c' l t st = some r
 | [], t, st, r, hr => hr
 | o :: l, t, st, r, hr => by
  simp only [Gc] at hr ⊢
  split at hr
  ·rename_i v st' hs
   rw [Jc h hs]
   exact Ma h hr
  ·cases hr
theorem Mb {c c' : CallF} (h : Fx c c') {st : List LObj} {held : List (DOp × List LV × LV)} (hr : Gd c st held = true) : Gd c' st held = true := by
 unfold Gd at hr ⊢
 rw [List.all_eq_true] at hr ⊢
 intro x hx
 have := hr x hx
 split at this
 ·rename_i v s hs
  rw [Jc h hs]
  exact this
 ·cases this
theorem Ew {c c' : CallF} (h : Fx c c') : ∀ {l : List DOp} {held : List (DOp × List LV × LV)} {t : List LV} {st : List LObj} {r : List LV × List LObj}, Cu c l held t st = some r → Cu c' l held t st = some r
 | [], held, t, st, r, hr => hr
 | d :: l, held, t, st, r, hr => by
  simp only [Cu] at hr ⊢
  split at hr
  ·cases hr
  ·rename_i v st' hs
   rw [Jc h hs]
   simp only
   split at hr
   ·split at hr
    ·rename_i hp; rw [if_pos hp]; exact Ew h hr
    ·cases hr
   ·split at hr
    ·rename_i hp
     simp only [Bool.and_eq_true] at hp
     rw [if_pos (by simp [hp.1, Mb h hp.2])]; exact Ew h hr
    ·cases hr
   ·split at hr
    ·rename_i hp
     simp only [Bool.and_eq_true] at hp
     rw [if_pos (by simp only [Bool.and_eq_true]; exact ⟨hp.1, Mb h hp.2⟩)]; exact Ew h hr
    ·cases hr
theorem Lg (r : Dj × List LV × List LObj) : El (some r) (some r) = some r := by
 unfold El
 simp [LV.eqbs_refl, M9]
theorem Bn {c c' : CallF} (h : Fx c c') {k : Nat} : ∀ {n m : Nat}, n ≤ m → ∀ {lc : B0} {t : List LV} {st : List LObj} {r : Dj × List LV × List LObj}, Bk c k n lc t st = some r → Bk c' k m lc t st = some r
 | 0, m, _, lc, t, st, r, hr => by simp [Bk] at hr
 | n + 1, 0, hnm, lc, t, st, r, hr => by omega
 | n + 1, m + 1, hnm, lc, t, st, r, hr => by
  have hle : n ≤ m := by omega
  cases lc with
  | skip => exact hr
  | exit id mask => exact hr
  | ret mask => exact hr
  | fail => simp [Bk] at hr
  | region ops =>
   simp only [Bk] at hr ⊢
   split at hr
   ·rename_i t' st' hs
    rw [Ma h hs]; exact hr
   ·cases hr
  | drawn ops =>
   simp only [Bk] at hr ⊢
   split at hr
   ·rename_i t' st' hs
    rw [Ew h hs]; exact hr
   ·cases hr
  | seq a b =>
   have go : ∀ {la : B0} {r}, Du (Bk c k n la t st) (Bk c k n b) = some r → Du (Bk c' k m la t st) (Bk c' k m b) = some r := by
    intro la r hr
    cases ha : Bk c k n la t st with
    | none => rw [ha] at hr; cases hr
    | some x =>
     rw [ha] at hr
     rw [Bn h hle ha]
     obtain ⟨o, t', st'⟩ := x
     cases o with
     | normal => exact Bn h hle hr
     | _ => exact hr
   simp only [Bk] at hr ⊢
   exact go hr
  | El x a b d =>
   have go : ∀ {la : B0} {r}, Du (Bk c k n la t st) (Bk c k n d) = some r → Du (Bk c' k m la t st) (Bk c' k m d) = some r := by
    intro la r hr
    cases ha : Bk c k n la t st with
    | none => rw [ha] at hr; cases hr
    | some x =>
     rw [ha] at hr
     rw [Bn h hle ha]
     obtain ⟨o, t', st'⟩ := x
     cases o with
     | normal => exact Bn h hle hr
     | _ => exact hr
   simp only [Bk] at hr ⊢
   split at hr
   ·exact go hr
   ·exact go hr
   ·obtain ⟨e1, e2⟩ := Jv hr
    rw [go e1, go e2]
    exact Lg r
   ·cases hr
  | cond x a b =>
   simp only [Bk] at hr ⊢
   split at hr
   ·exact Bn h hle hr
   ·exact Bn h hle hr
   ·obtain ⟨e1, e2⟩ := Jv hr
    rw [Bn h hle e1, Bn h hle e2]
    exact Lg r
   ·cases hr
  | block id mask a =>
   simp only [Bk] at hr ⊢
   cases ha : Bk c k n a t st with
   | none => rw [ha] at hr; cases hr
   | some x =>
    rw [ha] at hr
    rw [Bn h hle ha]
    exact hr
  | loop mask a =>
   simp only [Bk] at hr ⊢
   split at hr
   ·rename_i t0 st0 hg
    cases ha : Bk c k n a t0 st0 with
    | none => rw [ha] at hr; cases hr
    | some x =>
     rw [ha] at hr
     rw [Bn h hle ha]
     obtain ⟨o, t', st'⟩ := x
     cases o with
     | normal => exact Bn h hle hr
     | _ => exact hr
   ·cases hr
theorem B5 {lp : Bs} : ∀ {n m : Nat}, n ≤ m → Fx (Dr lp n) (Dr lp m)
 | 0, m, _ => fun f a s r h => by simp [Dr] at h
 | n + 1, 0, hnm => by omega
 | n + 1, m + 1, hnm => by
  intro f a s r h
  refine ⟨?_, rfl⟩
  simp only [Dr] at h ⊢
  split at h
  ·exact h
  ·split at h
   ·cases h
   ·rename_i lf hlf
    split at h
    ·cases h
    ·rename_i out t' st' hne hex
     rw [Bn (B5 (show n ≤ m by omega)) (show n ≤ m by omega) hex]
     simp only
     cases out with
     | exit i => exact (hne i rfl).elim
     | _ => exact h
    ·cases h
def Runs (lp : Bs) (f : FuncId) (args : List LV) (st : List LObj) (r : LV × List LObj) : Prop := ∃ n, Dr lp n f args st = some r
def Exec (lp : Bs) (k : Nat) (c : B0) (t : List LV) (st : List LObj) (r : Dj × List LV × List LObj) : Prop := ∃ n, Bk (Dr lp n) k n c t st = some r
theorem Exec.at {lp : Bs} {k : Nat} {c : B0} {t : List LV} {st : List LObj} {r : Dj × List LV × List LObj} (h : Exec lp k c t st r) : ∃ n, ∀ m, n ≤ m → Bk (Dr lp m) k m c t st = some r :=
 let ⟨n, hn⟩ := h
 ⟨n, fun m hm => Bn (B5 hm) hm hn⟩
theorem Runs.at {lp : Bs} {f : FuncId} {args : List LV} {st : List LObj} {r : LV × List LObj} (h : Runs lp f args st r) : ∃ n, ∀ m, n ≤ m → Dr lp m f args st = some r :=
 let ⟨n, hn⟩ := h
 ⟨n, fun m hm => (B5 hm _ _ _ _ hn).1⟩
def RunsZ (lp : Bs) (f : FuncId) (args : List LV) (st : List LObj) (r : LV × List LObj) : Prop := ∃ n, Fk (Dr lp n) f args st = some r
theorem RunsZ.at {lp : Bs} {f : FuncId} {args : List LV} {st : List LObj} {r : LV × List LObj} (h : RunsZ lp f args st r) : ∃ n, ∀ m, n ≤ m → Fk (Dr lp m) f args st = some r := by
 obtain ⟨n, hn⟩ := h
 exact ⟨n, fun m hm => (L9 (B5 hm) _ _ _ _ hn).1⟩
theorem gc_pure {st : List LObj} {vs : List LV} (h : vs.flatMap LV.refs = []) : gc 0 vs st = some (vs.map (LV.ren fun q => ([] : List Nat).idxOf q), []) := by
 unfold gc Js
 simp only [List.take_zero, List.flatMap_nil, h, List.append_nil, List.range_zero]
 have e : Eo st 100000 [] [] = [] := rfl
 rw [e]
 exact if_pos rfl
theorem Runs.z {lp : Bs} {f : FuncId} {args : List LV} {r v : LV} {st st' : List LObj} (h : Runs lp f args [] (r, st)) (hf : Tz st r = (v, st')) (hv : v.refs = []) (hr : v.ren (fun q => ([] : List Nat).idxOf q) = v) : RunsZ lp f args [] (v, []) := by
 obtain ⟨n, hn⟩ := h
 refine ⟨n, ?_⟩
 unfold Fk
 simp only [hn, hf, List.length_nil]
 rw [gc_pure (by simp [hv])]
 simp only [List.map_cons, List.map_nil, hr]
end Go.LS
set_option linter.unusedVariables false
set_option linter.unusedSimpArgs false
namespace Go.LS
inductive Orc where
 | b (c : Bool)
 | op (v : LV) (st : List LObj)
 | call (v : LV) (st : List LObj)
 | lp (out : Dj) (t : List LV) (st : List LObj)
 | lg (out : Dj) (t : List LV) (st : List LObj) (t0 : List LV) (st0 : List LObj)
 | cg (v : LV) (st : List LObj)
abbrev Os := List (Nat × Orc)
def tick : Os → Option Orc × Os
 | (0, o) :: r => (some o, r)
 | (n + 1, o) :: r => (none, (n, o) :: r)
 | [] => (none, [])
def LX.inst (t : List LV) (x : LX) : LX := .const (x.ev t)
def A0 : CallF := ⟨fun _ _ _ => none, fun _ => false⟩
def LOp.inst (t : List LV) : LOp → LOp
 | .mv x => .mv (x.inst t)
 | .pick c a b => .pick (c.inst t) (a.inst t) (b.inst t)
 | .alloc z => .alloc z
 | .box x => .box (x.inst t)
 | .build z ps => .build z (ps.map fun p => (p.1, p.2.1, p.2.2.inst t))
 | .mkrow r s l z ps => .mkrow r s l z (ps.map fun p => (p.1, p.2.inst t))
 | .load a n x => .load a n (x.inst t)
 | .store n x v => .store n (x.inst t) (v.inst t)
 | .nilChk x => .nilChk (x.inst t)
 | .bin o x y => .bin o (x.inst t) (y.inst t)
 | .beq o x y => .beq o (x.inst t) (y.inst t)
 | .peq o x y => .peq o (x.inst t) (y.inst t)
 | .nileq o k x => .nileq o k (x.inst t)
 | .un o x => .un o (x.inst t)
 | .cv k x => .cv k (x.inst t)
 | .fn f cs => .fn f (cs.map (LX.inst t))
 | .fnm f fs cs => .fnm f (fs.map (LX.inst t)) (cs.map (LX.inst t))
 | .clearS z x => .clearS z (x.inst t)
 | .appendR n m a b => .appendR n m (a.inst t) (b.inst t)
 | .iface ty x => .iface ty (x.inst t)
 | .mkmap => .mkmap
 | .mkslice a b z l c => .mkslice a b z (l.inst t) (c.inst t)
 | .sslice x a b c => .sslice (x.inst t) (a.map (LX.inst t)) (b.map (LX.inst t)) (c.map (LX.inst t))
 | .slice n x a b c => .slice n (x.inst t) (a.map (LX.inst t)) (b.map (LX.inst t)) (c.map (LX.inst t))
 | .fieldAddr n x => .fieldAddr n (x.inst t)
 | .field g n m x => .field g n m (x.inst t)
 | .indexAddr n x i => .indexAddr n (x.inst t) (i.inst t)
 | .arrAddr n m x i => .arrAddr n m (x.inst t) (i.inst t)
 | .index x i => .index (x.inst t) (i.inst t)
 | .arrIndex g n m x i => .arrIndex g n m (x.inst t) (i.inst t)
 | .lookup k z o x i => .lookup k z o (x.inst t) (i.inst t)
 | .mapUpdate k a b c => .mapUpdate k (a.inst t) (b.inst t) (c.inst t)
 | .delete k a b => .delete k (a.inst t) (b.inst t)
 | .range x => .range (x.inst t)
 | .next x => .next (x.inst t)
 | .extract x i => .extract (x.inst t) i
 | .call f as => .call f (as.map (LX.inst t))
 | .callv f as => .callv (f.inst t) (as.map (LX.inst t))
 | .callz f as => .callz f (as.map (LX.inst t))
 | .append s n m a b => .append s n m (a.inst t) (b.inst t)
 | .grow n m a b => .grow n m (a.inst t) (b.inst t)
 | .len x => .len (x.inst t)
 | .slen x => .slen (x.inst t)
 | .mlen x => .mlen (x.inst t)
 | .const v => .const v
 | .fail => .fail
 | .seq n l x y => .seq n l (x.inst t) (y.inst t)
 | .retire x => .retire (x.inst t)
 | .cap x => .cap (x.inst t)
 | .mx x y => .mx (x.inst t) (y.inst t)
 | .mn x y => .mn (x.inst t) (y.inst t)
theorem Qc (t s : List LV) (x : LX) : (x.inst t).ev s = x.ev t := rfl
theorem Z2 (t s : List LV) (xs : List LX) : (xs.map (LX.inst t)).map (LX.ev s) = xs.map (LX.ev t) := by rw [List.map_map]; rfl
theorem Z3 (t s : List LV) (xs : Option LX) : (xs.map (LX.inst t)).map (LX.ev s) = xs.map (LX.ev t) := by cases xs <;> rfl
theorem N0 (t s : List LV) : ∀ (ps : List (Nat × Nat × LX)), Et s (ps.map fun p => (p.1, p.2.1, p.2.2.inst t)) = Et t ps
 | [] => rfl
 | (a, b, x) :: r => by simp only [List.map_cons, Et, Qc, N0 t s r]
theorem R3 (t s : List LV) : ∀ (ps : List (Nat × LX)), Ho s (ps.map fun p => (p.1, p.2.inst t)) = Ho t ps
 | [] => rfl
 | (a, x) :: r => by simp only [List.map_cons, Ho, Qc, R3 t s r]
theorem R4 (call : CallF) (t s : List LV) (st : List LObj) (op : LOp) : Ao call s st (op.inst t) = Ao call t st op := by
 cases op <;> simp only [LOp.inst, Ao, Qc, Z2, Z3, N0, R3]
abbrev OpIs (t : List LV) (st : List LObj) (op : LOp) (v : LV) (st' : List LObj) : Prop := Ao A0 [] st (op.inst t) = some (v, st')
theorem Pc (c : CallF) : Fx A0 c := fun f a s r h => by simp [A0] at h
theorem OpIs.step {t : List LV} {st st' : List LObj} {op : LOp} {v : LV} (h : OpIs t st op v st') (c : CallF) : Ao c t st op = some (v, st') :=
 H4 (Pc c) (by rw [← R4 A0 t []]; exact h)
def Pd (lp : Bs) (f : FuncId) (args : List LV) (st : List LObj) (r : LV) (st1 : List LObj) : Option (LV × List LObj × Prop) :=
 let args := wk (lp.weak f) args
 let ids := Eo st 100000 (args.flatMap LV.refs) []
 if Eb st ids && (args.flatMap LV.refs).all (ids.contains ·) && decide ids.Nodup then
  if ids.length ≤ st1.length then
   let b := Bb ids st.length
   some (r.ren b, Di st ids ((st1.take ids.length).map (LObj.ren b)) ++ (st1.drop ids.length).map (LObj.ren b),
    Runs lp f (args.map (LV.ren fun q => ids.idxOf q)) (sub st ids) (r, st1))
  else none
 else none
theorem H5 {lp : Bs} {f : FuncId} {args : List LV} {st st1 st' : List LObj} {r v : LV} {p : Prop} (h : Pd lp f args st r st1 = some (v, st', p)) (hp : p) :
  ∃ n, ∀ m, n ≤ m → Cx (Dr lp m) f args st = some (v, st') := by
 unfold Pd at h
 simp only at h
 split at h
 ·rename_i hc
  split at h
  ·rename_i hl
   cases h
   obtain ⟨n, hn⟩ := Runs.at hp
   refine ⟨n, fun m hm => ?_⟩
   unfold Cx
   simp only
   rw [Kz, if_pos hc, hn m hm]
   simp only
   rw [if_pos hl]
  ·cases h
 ·cases h
def Uk (lp : Bs) (f : FuncId) (args : List LV) (st : List LObj) (r : LV) (st1 : List LObj) : Option (LV × List LObj × Prop) :=
 let args := wk (lp.weak f) args
 let ids := Eo st 100000 (args.flatMap LV.refs) []
 if Eb st ids && (args.flatMap LV.refs).all (ids.contains ·) && decide ids.Nodup then
  if ids.length ≤ st1.length then
   let b := Bb ids st.length
   some (r.ren b, Di st ids ((st1.take ids.length).map (LObj.ren b)) ++ (st1.drop ids.length).map (LObj.ren b),
    RunsZ lp f (args.map (LV.ren fun q => ids.idxOf q)) (sub st ids) (r, st1))
  else none
 else none
theorem Qd {lp : Bs} {f : FuncId} {args : List LV} {st st1 st' : List LObj} {r v : LV} {p : Prop} (h : Uk lp f args st r st1 = some (v, st', p)) (hp : p) :
  ∃ n, ∀ m, n ≤ m → Cx (Fk (Dr lp m)) f args st = some (v, st') := by
 unfold Uk at h
 simp only at h
 split at h
 ·rename_i hc
  split at h
  ·rename_i hl
   cases h
   obtain ⟨n, hn⟩ := RunsZ.at hp
   refine ⟨n, fun m hm => ?_⟩
   unfold Cx
   simp only
   have hw : (Fk (Dr lp m)).weak f = lp.weak f := by show (Dr lp m).weak f = _; rw [Kz]
   rw [hw, if_pos hc, hn m hm]
   simp only
   rw [if_pos hl]
  ·cases h
 ·cases h
def Bh (lp : Bs) (f : FuncId) (args : List LV) (st : List LObj) (r : LV × List LObj) : Prop := ∃ n, ∀ m, n ≤ m → Cx (Dr lp m) f args st = some r
def gdO (t : List LV) (g : Option (Nat × Bool)) (os : Os) : Option (Bool × List Prop × Os) :=
 match g with
 | none => some (true, [], os)
 | some (j, want) => match tick os with
  | (some (.b c), os') => some (c == want, [t.getD j .und = .p (.bool c)], os')
  | (none, os') => match gd t (some (j, want)) with
   | some b => some (b, [], os')
   | none => none
  | _ => none
abbrev Lh (ps : List Prop) : Prop := ∀ p ∈ ps, p
theorem Pe {t : List LV} {g : Option (Nat × Bool)} {os os' : Os} {b : Bool} {ps : List Prop} (h : gdO t g os = some (b, ps, os')) (hp : Lh ps) : gd t g = some b := by
 unfold gdO at h
 split at h
 ·cases h; rfl
 ·split at h
  ·cases h
   have := hp _ (List.mem_singleton.2 rfl)
   simp only [gd, this]
  ·split at h
   ·cases h; assumption
   ·cases h
  ·cases h
def Z4 (lp : Bs) (t : List LV) (st : List LObj) (op : LOp) (os : Os) : Option (LV × List LObj × List Prop × Os) :=
 match tick os with
 | (none, os') => match Ao A0 t st op with
  | some (v, st') => some (v, st', [], os')
  | none => none
 | (some (.op v st'), os') => some (v, st', [OpIs t st op v st'], os')
 | (some (.call r st1), os') => match op with
  | .call f args => match Pd lp f (args.map (LX.ev t)) st r st1 with
   | some (v, st', p) => some (v, st', [p], os')
   | none => none
  | .callz f args => match Uk lp f (args.map (LX.ev t)) st r st1 with
   | some (v, st', p) => some (v, st', [p], os')
   | none => none
  | .callv f args => match f.ev t with
   | .fn (.func g) first captured => match Pd lp g (first ++ args.map (LX.ev t) ++ captured) st r st1 with
    | some (v, st', p) => some (v, st', [p], os')
    | none => none
   | _ => none
  | _ => none
 | (some (.cg v st'), os') => match op with
  | .call f args => some (v, st', [Bh lp f (args.map (LX.ev t)) st (v, st')], os')
  | .callv f args => match f.ev t with
   | .fn (.func g) first captured => some (v, st', [Bh lp g (first ++ args.map (LX.ev t) ++ captured) st (v, st')], os')
   | _ => none
  | _ => none
 | (some (.b c), os') => match op with
  | .pick x a b => some (if c then a.ev t else b.ev t, st, [x.ev t = .p (.bool c)], os')
  | _ => none
 | _ => none
theorem R5 {lp : Bs} {t : List LV} {st st' : List LObj} {op : LOp} {os os' : Os} {v : LV} {ps : List Prop} (h : Z4 lp t st op os = some (v, st', ps, os')) (hp : Lh ps) :
  ∃ n, ∀ m, n ≤ m → Ao (Dr lp m) t st op = some (v, st') := by
 unfold Z4 at h
 split at h
 ·split at h <;> cases h
  exact ⟨0, fun m _ => H4 (Pc _) ‹_›⟩
 ·cases h
  have := hp _ (List.mem_singleton.2 rfl)
  exact ⟨0, fun m _ => OpIs.step this _⟩
 ·split at h
  ·split at h <;> cases h
   exact H5 ‹_› (hp _ (List.mem_singleton.2 rfl))
  ·split at h <;> cases h
   exact Qd ‹_› (hp _ (List.mem_singleton.2 rfl))
  ·split at h
   ·rename_i hf
    split at h <;> cases h
    obtain ⟨n, hn⟩ := H5 ‹_› (hp _ (List.mem_singleton.2 rfl))
    exact ⟨n, fun m hm => by simp only [Ao, hf]; exact hn m hm⟩
   ·cases h
  ·cases h
 ·split at h
  ·cases h
   exact hp _ (List.mem_singleton.2 rfl)
  ·split at h
   ·rename_i hf
    cases h
    obtain ⟨n, hn⟩ := hp _ (List.mem_singleton.2 rfl)
    exact ⟨n, fun m hm => by simp only [Ao, hf]; exact hn m hm⟩
   ·cases h
  ·cases h
 ·split at h
  ·cases h
   have := hp _ (List.mem_singleton.2 rfl)
   exact ⟨0, fun m _ => by simp only [Ao, this]⟩
  ·cases h
 ·cases h
def Wn (lp : Bs) (t : List LV) (st : List LObj) (o : D4) (os : Os) : Option (LV × List LObj × List Prop × Os × Bool) :=
 match gdO t o.guard os with
 | some (true, ps, os1) => match Z4 lp t st o.op os1 with
  | some (v, st', qs, os2) => some (v, st', ps ++ qs, os2, true)
  | none => none
 | some (false, ps, os1) => some (.tup [], st, ps, os1, false)
 | none => none
theorem Dh {ps qs : List Prop} (h : Lh (ps ++ qs)) : Lh ps ∧ Lh qs := ⟨fun p hp => h p (List.mem_append_left _ hp), fun p hp => h p (List.mem_append_right _ hp)⟩
theorem F7 {lp : Bs} {t : List LV} {st st' : List LObj} {o : D4} {os os' : Os} {v : LV} {ps : List Prop} {d : Bool} (h : Wn lp t st o os = some (v, st', ps, os', d)) (hp : Lh ps) :
  gd t o.guard = some d ∧ ∃ n, ∀ m, n ≤ m → C1 (Dr lp m) t st o = some (v, st') := by
 unfold Wn at h
 split at h
 ·rename_i ps1 os1 hg
  split at h
  ·rename_i v' st1 qs os2 hs
   cases h
   obtain ⟨h1, h2⟩ := Dh hp
   obtain ⟨n, hn⟩ := R5 hs h2
   have := Pe hg h1
   exact ⟨this, n, fun m hm => by unfold C1; rw [this]; exact hn m hm⟩
  ·cases h
 ·rename_i ps1 os1 hg
  cases h
  have := Pe hg hp
  exact ⟨this, 0, fun m _ => by unfold C1; rw [this]⟩
 ·cases h
def Z5 (lp : Bs) : List D4 → List LV → List LObj → Os → Option (List LV × List LObj × List Prop × Os)
 | [], t, st, os => some (t, st, [], os)
 | o :: r, t, st, os => match Wn lp t st o os with
  | some (v, st', ps, os', _) => match Z5 lp r (Hs t o.dst v) st' os' with
   | some (t', st'', qs, os'') => some (t', st'', ps ++ qs, os'')
   | none => none
  | none => none
theorem N1 {lp : Bs} : ∀ {l : List D4} {t t' : List LV} {st st' : List LObj} {os os' : Os} {ps : List Prop}, Z5 lp l t st os = some (t', st', ps, os') → Lh ps →
  ∃ n, ∀ m, n ≤ m → Gc (Dr lp m) l t st = some (t', st')
 | [], t, t', st, st', os, os', ps, h, _ => by simp only [Z5] at h; cases h; exact ⟨0, fun m _ => rfl⟩
 | o :: r, t, t', st, st', os, os', ps, h, hp => by
  simp only [Z5] at h
  split at h
  ·rename_i v st1 ps1 os1 d hs
   split at h
   ·rename_i t2 st2 qs os2 hr
    cases h
    obtain ⟨h1, h2⟩ := Dh hp
    obtain ⟨_, n, hn⟩ := F7 hs h1
    obtain ⟨k, hk⟩ := N1 hr h2
    exact ⟨max n k, fun m hm => by simp only [Gc, hn m (by omega)]; exact hk m (by omega)⟩
   ·cases h
  ·cases h
def Wo (st : List LObj) (held : List (DOp × List LV × LV)) : List Prop := held.map fun x => OpIs x.2.1 st x.1.op.op x.2.2 st
theorem R6 {lp : Bs} {m : Nat} {st : List LObj} {held : List (DOp × List LV × LV)} (h : Lh (Wo st held)) (hg : ∀ x ∈ held, gd x.2.1 x.1.op.guard = some true) : Gd (Dr lp m) st held = true := by
 unfold Gd
 rw [List.all_eq_true]
 intro x hx
 have := h _ (List.mem_map.2 ⟨x, hx, rfl⟩)
 unfold C1
 rw [hg x hx]
 simp only [OpIs.step this, LV.eqb_refl]
def Jd (lp : Bs) : List DOp → List (DOp × List LV × LV) → List LV → List LObj → Os → Option (List LV × List LObj × List Prop × Os)
 | [], _, t, st, os => some (t, st, [], os)
 | d :: r, held, t, st, os => match Wn lp t st d.op os with
  | none => none
  | some (v, st', ps, os', done) =>
   match d.cls with
   | .h => if Hg d.op.op v then
     match Jd lp r (if Ri t d.op.op || !done then held else (d, t, v) :: held) (Hs t d.op.dst v) st' os' with
     | some (t', st'', qs, os'') => some (t', st'', ps ++ qs, os'')
     | none => none
    else none
   | .a => if Na st st' then
     match Jd lp r held (Hs t d.op.dst v) st' os' with
     | some (t', st'', qs, os'') => some (t', st'', ps ++ Wo st' held ++ qs, os'')
     | none => none
    else none
   | .c => if decide (st.length ≤ st'.length) then
     match Jd lp r (held.filter fun x => !d.must.contains x.1.idx) (Hs t d.op.dst v) st' os' with
     | some (t', st'', qs, os'') => some (t', st'', ps ++ Wo st' (held.filter fun x => !d.must.contains x.1.idx) ++ qs, os'')
     | none => none
    else none
abbrev Qe (held heldO : List (DOp × List LV × LV)) : Prop := ∀ x ∈ held, x ∈ heldO ∨ (gd x.2.1 x.1.op.guard = some false ∧ x.2.2 = .tup [])
theorem N2 {lp : Bs} {m : Nat} {st : List LObj} {held heldO : List (DOp × List LV × LV)} (hs : Qe held heldO) (h : Lh (Wo st heldO)) (hg : ∀ x ∈ heldO, gd x.2.1 x.1.op.guard = some true) :
  Gd (Dr lp m) st held = true := by
 unfold Gd
 rw [List.all_eq_true]
 intro x hx
 rcases hs x hx with hx | ⟨h1, h2⟩
 ·have := List.all_eq_true.1 (R6 (lp := lp) (m := m) h hg) x hx
  exact this
 ·unfold C1
  rw [h1, h2]
  rfl
theorem Fc {lp : Bs} : ∀ {l : List DOp} {heldO : List (DOp × List LV × LV)} {t t' : List LV} {st st' : List LObj} {os os' : Os} {ps : List Prop}, Jd lp l heldO t st os = some (t', st', ps, os') → Lh ps →
  (∀ x ∈ heldO, gd x.2.1 x.1.op.guard = some true) → ∃ n, ∀ m, n ≤ m → ∀ held, Qe held heldO → Cu (Dr lp m) l held t st = some (t', st')
 | [], heldO, t, t', st, st', os, os', ps, h, _, _ => by simp only [Jd] at h; cases h; exact ⟨0, fun m _ held _ => rfl⟩
 | d :: r, heldO, t, t', st, st', os, os', ps, h, hp, hg => by
  simp only [Jd] at h
  split at h
  ·cases h
  ·rename_i v st1 ps1 os1 done hs
   split at h
   ·rename_i hc
    split at h
    ·rename_i hpv
     split at h
     ·rename_i t2 st2 qs os2 hr
      cases h
      obtain ⟨h1, h2⟩ := Dh hp
      obtain ⟨hgd, n, hn⟩ := F7 hs h1
      obtain ⟨k, hk⟩ := Fc hr h2 (fun x hx => by
       split at hx
       ·exact hg x hx
       ·rename_i hst
        rcases List.mem_cons.1 hx with rfl | hx
        ·have : done = true := by cases done <;> simp_all
         rw [this] at hgd; exact hgd
        ·exact hg x hx)
      refine ⟨max n k, fun m hm held hsub => ?_⟩
      simp only [Cu, hn m (by omega), hc]
      rw [if_pos hpv]
      refine hk m (by omega) _ (fun x hx => ?_)
      split at hx
      ·rename_i hst
       rw [if_pos (by simp [hst])]
       exact hsub x hx
      ·rename_i hst
       rcases List.mem_cons.1 hx with rfl | hx
       ·cases hdn : done with
        | true => rw [if_neg (by simp [hst])]; exact .inl (by simp)
        | false =>
         rw [hdn] at hgd
         refine .inr ⟨hgd, ?_⟩
         have := hn n (Nat.le_refl _)
         unfold C1 at this
         rw [hgd] at this
         cases this; rfl
       ·rcases hsub x hx with h | h
        ·refine .inl ?_
         split
         ·exact h
         ·exact List.mem_cons_of_mem _ h
        ·exact .inr h
     ·cases h
    ·cases h
   ·rename_i hc
    split at h
    ·rename_i hnew
     split at h
     ·rename_i t2 st2 qs os2 hr
      cases h
      obtain ⟨h12, h3⟩ := Dh hp
      obtain ⟨h1, h2⟩ := Dh h12
      obtain ⟨hgd, n, hn⟩ := F7 hs h1
      obtain ⟨k, hk⟩ := Fc hr h3 hg
      refine ⟨max n k, fun m hm held hsub => ?_⟩
      simp only [Cu, hn m (by omega), hc]
      rw [if_pos (by simp only [Bool.and_eq_true]; exact ⟨hnew, N2 hsub h2 hg⟩)]
      exact hk m (by omega) _ hsub
     ·cases h
    ·cases h
   ·rename_i hc
    split at h
    ·rename_i hlen
     split at h
     ·rename_i t2 st2 qs os2 hr
      cases h
      obtain ⟨h12, h3⟩ := Dh hp
      obtain ⟨h1, h2⟩ := Dh h12
      obtain ⟨hgd, n, hn⟩ := F7 hs h1
      have hg' : ∀ x ∈ heldO.filter (fun x => !d.must.contains x.1.idx), gd x.2.1 x.1.op.guard = some true := fun x hx => hg x (List.mem_filter.1 hx).1
      obtain ⟨k, hk⟩ := Fc hr h3 hg'
      refine ⟨max n k, fun m hm held hsub => ?_⟩
      have hsub' : Qe (held.filter fun x => !d.must.contains x.1.idx) (heldO.filter fun x => !d.must.contains x.1.idx) := by
       intro x hx
       obtain ⟨a, b⟩ := List.mem_filter.1 hx
       rcases hsub x a with h | h
       ·exact .inl (List.mem_filter.2 ⟨h, b⟩)
       ·exact .inr h
      simp only [Cu, hn m (by omega), hc]
      rw [if_pos (by simp only [Bool.and_eq_true]; exact ⟨hlen, N2 hsub' h2 hg'⟩)]
      exact hk m (by omega) _ hsub'
     ·cases h
    ·cases h
def LoopAt (lp : Bs) (k : Nat) (mask : List Bool) (c : B0) (t : List LV) (st : List LObj) (r : Dj × List LV × List LObj) : Prop :=
 ∃ n, (match Bk (Dr lp n) k n c t st with
  | some (.normal, t', st') => Bk (Dr lp n) k n (.loop mask c) t' st'
  | r => r) = some r
def C7 (lp : Bs) (k : Nat) : Nat → B0 → List LV → List LObj → Os → Option (Dj × List LV × List LObj × List Prop × Os)
 | 0, _, _, _, _ => none
 | n + 1, c, t, st, os => match c with
  | .skip => some (.normal, t, st, [], os)
  | .region ops => match Z5 lp ops t st os with
   | some (t', st', ps, os') => some (.normal, t', st', ps, os')
   | none => none
  | .drawn ops => match Jd lp ops [] t st os with
   | some (t', st', ps, os') => some (.normal, t', st', ps, os')
   | none => none
  | .seq a b => match C7 lp k n a t st os with
   | some (.normal, t', st', ps, os') => (match C7 lp k n b t' st' os' with
    | some (o, t'', st'', qs, os'') => some (o, t'', st'', ps ++ qs, os'')
    | none => none)
   | r => r
  | .cond x a b => match tick os with
   | (some (.b c), os') => (match C7 lp k n (if c then a else b) t st os' with
    | some (o, t', st', ps, os'') => some (o, t', st', (x.ev t = .p (.bool c)) :: ps, os'')
    | none => none)
   | (none, os') => (match x.ev t with
    | .p (.bool true) => C7 lp k n a t st os'
    | .p (.bool false) => C7 lp k n b t st os'
    | _ => none)
   | _ => none
  | .El x a b c => C7 lp k n (.seq (.cond x a b) c) t st os
  | .block id mask c => match C7 lp k n c t st os with
   | some (.exit i, t', st', ps, os') => if i = id then some (.normal, kill mask t', st', ps, os') else some (.exit i, t', st', ps, os')
   | some (.normal, t', st', ps, os') => some (.normal, kill mask t', st', ps, os')
   | r => r
  | .loop mask c => match tick os with
   | (some (.lp out t' st'), os') => (match gc k (kill mask t) st with
    | some (t0, st0) => some (out, t', st', [LoopAt lp k mask c t0 st0 (out, t', st')], os')
    | none => none)
   | (some (.lg out t' st' t0 st0), os') => some (out, t', st', [gc k (kill mask t) st = some (t0, st0), LoopAt lp k mask c t0 st0 (out, t', st')], os')
   | _ => none
  | .exit id mask => some (.exit id, kill mask t, st, [], os)
  | .ret mask => some (.ret, kill mask t, st, [], os)
  | .fail => none
theorem X1 {c : CallF} {k m : Nat} {x : LX} {a b d : B0} {t : List LV} {st : List LObj} {r : Dj × List LV × List LObj} (h : Bk c k m (.seq (.cond x a b) d) t st = some r) : Bk c k (m + 1) (.El x a b d) t st = some r := by
 cases m with
 | zero => simp [Bk] at h
 | succ m =>
  cases m with
  | zero => simp [Bk, Du] at h
  | succ m =>
   show (match x.ev t with
    | .p (.bool true) => Du (Bk c k (m + 1 + 1) a t st) (Bk c k (m + 1 + 1) d)
    | .p (.bool false) => Du (Bk c k (m + 1 + 1) b t st) (Bk c k (m + 1 + 1) d)
    | .anyb => El (Du (Bk c k (m + 1 + 1) a t st) (Bk c k (m + 1 + 1) d)) (Du (Bk c k (m + 1 + 1) b t st) (Bk c k (m + 1 + 1) d))
    | _ => none) = some r
   replace h : Du (match x.ev t with
    | .p (.bool true) => Bk c k m a t st
    | .p (.bool false) => Bk c k m b t st
    | .anyb => El (Bk c k m a t st) (Bk c k m b t st)
    | _ => none) (Bk c k (m + 1) d) = some r := h
   have up : ∀ {lz : B0} {y}, Bk c k m lz t st = some y → Du (some y) (Bk c k (m + 1) d) = some r → Du (Bk c k (m + 1 + 1) lz t st) (Bk c k (m + 1 + 1) d) = some r := by
    intro lz y h1 h2
    rw [Bn (fun _ _ _ _ h => ⟨h, rfl⟩) (show m ≤ m + 1 + 1 by omega) h1]
    obtain ⟨o, t', st'⟩ := y
    cases o with
    | normal => exact Bn (fun _ _ _ _ h => ⟨h, rfl⟩) (show m + 1 ≤ m + 1 + 1 by omega) h2
    | _ => exact h2
   split at h
   ·rename_i hx
    cases he : Bk c k m a t st with
    | none => rw [he] at h; cases h
    | some y => rw [he] at h; (try simp only [hx]); exact up he h
   ·rename_i hx
    cases he : Bk c k m b t st with
    | none => rw [he] at h; cases h
    | some y => rw [he] at h; (try simp only [hx]); exact up he h
   ·rename_i hx
    cases hb : El (Bk c k m a t st) (Bk c k m b t st) with
    | none => rw [hb] at h; cases h
    | some y =>
     rw [hb] at h
     obtain ⟨e1, e2⟩ := Jv hb
     try simp only [hx]
     rw [up e1 h, up e2 h]
     exact Lg r
   ·cases h
theorem Ch {lp : Bs} {k : Nat} : ∀ {n : Nat} {c : B0} {t t' : List LV} {st st' : List LObj} {os os' : Os} {ps : List Prop} {o : Dj}, C7 lp k n c t st os = some (o, t', st', ps, os') → Lh ps →
  Exec lp k c t st (o, t', st')
 | 0, c, t, t', st, st', os, os', ps, o, h, _ => by simp [C7] at h
 | n + 1, c, t, t', st, st', os, os', ps, o, h, hp => by
  cases c with
  | skip => simp only [C7] at h; cases h; exact ⟨1, rfl⟩
  | exit id mask => simp only [C7] at h; cases h; exact ⟨1, rfl⟩
  | ret mask => simp only [C7] at h; cases h; exact ⟨1, rfl⟩
  | fail => simp [C7] at h
  | region ops =>
   simp only [C7] at h
   split at h
   ·rename_i t1 st1 ps1 os1 hs
    cases h
    obtain ⟨m, hm⟩ := N1 hs hp
    exact ⟨m + 1, by simp only [Bk]; rw [hm (m + 1) (by omega)]⟩
   ·cases h
  | drawn ops =>
   simp only [C7] at h
   split at h
   ·rename_i t1 st1 ps1 os1 hs
    cases h
    obtain ⟨m, hm⟩ := Fc hs hp (by simp)
    exact ⟨m + 1, by simp only [Bk]; rw [hm (m + 1) (by omega) [] (by simp)]⟩
   ·cases h
  | seq a b =>
   simp only [C7] at h
   split at h
   ·rename_i t1 st1 ps1 os1 hs
    split at h
    ·rename_i o2 t2 st2 ps2 os2 hs2
     cases h
     obtain ⟨h1, h2⟩ := Dh hp
     obtain ⟨m1, e1⟩ := (Ch hs h1).at
     obtain ⟨m2, e2⟩ := (Ch hs2 h2).at
     refine ⟨max m1 m2 + 1, ?_⟩
     simp only [Bk, Du]
     rw [Bn (B5 (by omega)) (Nat.le_refl _) (e1 (max m1 m2) (by omega))]
     exact Bn (B5 (by omega)) (Nat.le_refl _) (e2 (max m1 m2) (by omega))
    ·cases h
   ·rename_i r hne
    cases ha : C7 lp k n a t st os with
    | none => rw [ha] at h; cases h
    | some x =>
     obtain ⟨o1, t1, st1, ps1, os1⟩ := x
     rw [ha] at h
     cases h
     obtain ⟨m, e⟩ := (Ch ha hp).at
     refine ⟨m + 1, ?_⟩
     simp only [Bk, Du]
     rw [Bn (B5 (by omega)) (Nat.le_refl _) (e m (Nat.le_refl _))]
     cases o with
     | normal => exact absurd ha (hne _ _ _ _)
     | _ => rfl
  | cond x a b =>
   simp only [C7] at h
   split at h
   ·rename_i c os1 _
    split at h
    ·rename_i o1 t1 st1 ps1 os2 hs
     cases h
     have hx := hp _ (List.mem_cons_self ..)
     obtain ⟨m, e⟩ := (Ch hs (fun p hm => hp p (List.mem_cons_of_mem _ hm))).at
     refine ⟨m + 1, ?_⟩
     simp only [Bk, hx]
     have := Bn (B5 (lp := lp) (show m ≤ m + 1 by omega)) (Nat.le_refl _) (e m (Nat.le_refl _))
     cases c <;> exact this
    ·cases h
   ·split at h
    ·rename_i hx
     obtain ⟨m, e⟩ := (Ch h hp).at
     refine ⟨m + 1, ?_⟩
     simp only [Bk, hx]
     exact Bn (B5 (by omega)) (Nat.le_refl _) (e m (Nat.le_refl _))
    ·rename_i hx
     obtain ⟨m, e⟩ := (Ch h hp).at
     refine ⟨m + 1, ?_⟩
     simp only [Bk, hx]
     exact Bn (B5 (by omega)) (Nat.le_refl _) (e m (Nat.le_refl _))
    ·cases h
   ·cases h
  | El x a b d =>
   simp only [C7] at h
   obtain ⟨m, e⟩ := (Ch h hp).at
   exact ⟨m + 1, Bn (B5 (by omega)) (Nat.le_refl _) (X1 (e m (Nat.le_refl _)))⟩
  | block id mask a =>
   simp only [C7] at h
   have go : ∀ {o1 t1 st1 ps1 os1}, C7 lp k n a t st os = some (o1, t1, st1, ps1, os1) → Lh ps1 → ∃ m, Bk (Dr lp (m + 1)) k m a t st = some (o1, t1, st1) := by
    intro o1 t1 st1 ps1 os1 hs hp1
    obtain ⟨m, e⟩ := (Ch hs hp1).at
    exact ⟨m, Bn (B5 (by omega)) (Nat.le_refl _) (e m (Nat.le_refl _))⟩
   split at h
   ·rename_i i t1 st1 ps1 os1 hs
    split at h
    ·rename_i hi
     cases h
     obtain ⟨m, e⟩ := go hs hp
     exact ⟨m + 1, by simp only [Bk, e]; rw [if_pos hi]⟩
    ·rename_i hi
     cases h
     obtain ⟨m, e⟩ := go hs hp
     exact ⟨m + 1, by simp only [Bk, e]; rw [if_neg hi]⟩
   ·rename_i t1 st1 ps1 os1 hs
    cases h
    obtain ⟨m, e⟩ := go hs hp
    exact ⟨m + 1, by simp only [Bk, e]⟩
   ·rename_i r hne1 hne2
    cases ha : C7 lp k n a t st os with
    | none => rw [ha] at h; cases h
    | some x =>
     obtain ⟨o1, t1, st1, ps1, os1⟩ := x
     rw [ha] at h
     cases h
     obtain ⟨m, e⟩ := go ha hp
     refine ⟨m + 1, ?_⟩
     simp only [Bk, e]
     cases o with
     | normal => exact absurd ha (hne2 _ _ _ _)
     | exit i => exact absurd ha (hne1 _ _ _ _ _)
     | ret => rfl
  | loop mask a =>
   simp only [C7] at h
   split at h
   ·rename_i out t1 st1 os1 _
    split at h
    ·rename_i t0 st0 hg
     cases h
     obtain ⟨m, hm⟩ := hp _ (List.mem_singleton.2 rfl)
     refine ⟨m + 1, ?_⟩
     simp only [Bk, hg]
     cases he : Bk (Dr lp m) k m a t0 st0 with
     | none => rw [he] at hm; cases hm
     | some x =>
      obtain ⟨o2, t2, st2⟩ := x
      rw [he] at hm
      rw [Bn (B5 (show m ≤ m + 1 by omega)) (Nat.le_refl _) he]
      cases o2 with
      | normal => exact Bn (B5 (by omega)) (Nat.le_refl _) hm
      | _ => exact hm
    ·cases h
   ·cases h
    have hg := hp _ (List.mem_cons_self ..)
    rename_i t0 st0 _
    obtain ⟨m, hm⟩ := hp _ (List.mem_cons_of_mem _ (List.mem_singleton.2 rfl))
    refine ⟨m + 1, ?_⟩
    simp only [Bk, hg]
    cases he : Bk (Dr lp m) k m a t0 st0 with
    | none => rw [he] at hm; cases hm
    | some x =>
     obtain ⟨o2, t2, st2⟩ := x
     rw [he] at hm
     rw [Bn (B5 (show m ≤ m + 1 by omega)) (Nat.le_refl _) he]
     cases o2 with
     | normal => exact Bn (B5 (by omega)) (Nat.le_refl _) hm
     | _ => exact hm
   ·cases h
end Go.LS
set_option linter.unusedVariables false
set_option linter.unusedSimpArgs false
namespace Go.LS
def Conj : List Prop → Prop
 | [] => True
 | p :: r => p ∧ Conj r
theorem Conj.all : ∀ {ps : List Prop}, Conj ps → Lh ps
 | [], _, p, hp => by cases hp
 | q :: r, h, p, hp => by
  rcases List.mem_cons.1 hp with rfl | hp
  ·exact h.1
  ·exact h.2.all p hp
def runO (lp : Bs) (N : Nat) (f : FuncId) (args : List LV) (st : List LObj) (os : Os) : Option (LV × List LObj × List Prop) :=
 match lp.summ f with
 | some _ => none
 | none => match lp.fns f with
  | none => none
  | some lf => match C7 lp st.length N lf.body (wk (lp.weak f) args ++ List.replicate (lf.ntmps - args.length) .und) st os with
   | some (.exit _, _, _, _, _) => none
   | some (_, t', st', ps, _) => match Jw t' st' lf.results with
    | some vs => match frz (lp.wres f) st' vs with
     | (vs, st') => (match gc st.length vs st' with
      | some (vs', st'') => some (Ht vs', st'', ps)
      | none => none)
    | none => none
   | none => none
theorem C0 {lp : Bs} {N : Nat} {f : FuncId} {args : List LV} {st st' : List LObj} {os : Os} {v : LV} {ps : List Prop} (h : runO lp N f args st os = some (v, st', ps)) (hp : Conj ps) : Runs lp f args st (v, st') := by
 unfold runO at h
 split at h
 ·cases h
 ·rename_i hsm
  split at h
  ·cases h
  ·rename_i lf hlf
   split at h
   ·cases h
   ·rename_i out t1 st1 ps1 os1 hne hex
    split at h
    ·rename_i vs hvs
     dsimp only at h
     split at h
     ·rename_i vs' st2 hgc
      simp only [Option.some.injEq, Prod.mk.injEq] at h
      obtain ⟨rfl, rfl, rfl⟩ := h
      obtain ⟨n, hn⟩ := Ch hex hp.all
      refine ⟨n + 1, ?_⟩
      simp only [Dr, hsm, hlf, hn]
      cases out with
      | exit i => exact (hne i rfl).elim
      | normal => simp only [hvs, hgc]
      | ret => simp only [hvs, hgc]
     ·cases h
    ·cases h
   ·cases h
def Li (lp : Bs) (N k : Nat) (mask : List Bool) (c : B0) (t : List LV) (st : List LObj) (os : Os) : Option (Dj × List LV × List LObj × List Prop) :=
 match C7 lp k N c t st os with
 | some (.normal, t', st', ps, _) => match gc k (kill mask t') st' with
  | some (t'', st'') => some (.normal, t'', st'', ps)
  | none => none
 | some (o, t', st', ps, _) => some (o, t', st', ps)
 | none => none
theorem LoopAt.on {lp : Bs} {N k : Nat} {mask : List Bool} {c : B0} {t t' : List LV} {st st' : List LObj} {os : Os} {ps : List Prop} {r : Dj × List LV × List LObj}
  (h : Li lp N k mask c t st os = some (.normal, t', st', ps)) (hp : Conj ps) (hr : LoopAt lp k mask c t' st' r) : LoopAt lp k mask c t st r := by
 unfold Li at h
 split at h
 ·rename_i t1 st1 ps1 os1 hex
  split at h
  ·rename_i t2 st2 hg
   simp only [Option.some.injEq, Prod.mk.injEq, true_and] at h
   obtain ⟨rfl, rfl, rfl⟩ := h
   obtain ⟨n, hn⟩ := (Ch hex hp.all).at
   obtain ⟨m, hm⟩ := hr
   refine ⟨max n m + 1, ?_⟩
   rw [hn (max n m + 1) (by omega)]
   simp only [Bk, hg]
   cases he : Bk (Dr lp m) k m c t2 st2 with
   | none => rw [he] at hm; cases hm
   | some x =>
    obtain ⟨o2, t3, st3⟩ := x
    rw [he] at hm
    rw [Bn (B5 (show m ≤ max n m + 1 by omega)) (show m ≤ max n m by omega) he]
    cases o2 with
    | normal => exact Bn (B5 (by omega)) (by omega) hm
    | _ => exact hm
  ·cases h
 ·rename_i hne hex
  simp only [Option.some.injEq, Prod.mk.injEq] at h
  obtain ⟨rfl, rfl, rfl, rfl⟩ := h
  exact (hne rfl).elim
 ·cases h
theorem LoopAt.out {lp : Bs} {N k : Nat} {mask : List Bool} {c : B0} {t t' : List LV} {st st' : List LObj} {os : Os} {ps : List Prop} {o : Dj}
  (h : Li lp N k mask c t st os = some (o, t', st', ps)) (ho : (match o with | .normal => false | _ => true) = true) (hp : Conj ps) : LoopAt lp k mask c t st (o, t', st') := by
 unfold Li at h
 split at h
 ·split at h
  ·cases h; cases ho
  ·cases h
 ·rename_i o1 t1 st1 ps1 os1 hne hex
  simp only [Option.some.injEq, Prod.mk.injEq] at h
  obtain ⟨rfl, rfl, rfl, rfl⟩ := h
  obtain ⟨n, hn⟩ := Ch hex hp.all
  refine ⟨n, ?_⟩
  rw [hn]
  cases o1 with
  | normal => cases ho
  | _ => rfl
 ·cases h
def Ex : B0 → List (List Bool × B0)
 | .seq a b => Ex a ++ Ex b
 | .cond _ a b => Ex a ++ Ex b
 | .El _ a b c => Ex a ++ Ex b ++ Ex c
 | .block _ _ c => Ex c
 | .loop m c => (m, c) :: Ex c
 | _ => []
def Ae (lf : LFn) (i : Nat) : List Bool × B0 := (Ex lf.body).getD i ([], .skip)
def tl (i : Nat) : Nat → List (Nat × LV) → List LV
 | 0, _ => []
 | n + 1, [] => .und :: tl (i + 1) n []
 | n + 1, (j, v) :: r => match Nat.beq i j with
  | true => v :: tl (i + 1) n r
  | false => .und :: tl (i + 1) n ((j, v) :: r)
abbrev OpW (st : List LObj) (op : LOp) (v : LV) (st' : List LObj) : Prop := Ao A0 [] st op = some (v, st')
abbrev LoopN (lp : Bs) (k : Nat) (x : List Bool × B0) (t : List LV) (st : List LObj) (r : Dj × List LV × List LObj) : Prop := LoopAt lp k x.1 x.2 t st r
def oO {st st' : List LObj} {op : LOp} {v : LV} (_ : OpW st op v st') : Orc := .op v st'
def oC {lp : Bs} {f : Nat} {as : List LV} {st st' : List LObj} {v : LV} (_ : Runs lp f as st (v, st')) : Orc := .call v st'
def oL {lp : Bs} {k : Nat} {x : List Bool × B0} {t t' : List LV} {st st' : List LObj} {o : Dj} (_ : LoopN lp k x t st (o, t', st')) : Orc := .lp o t' st'
theorem cI {b c : Bool} (h : b = c) : LV.p (PV.bool b) = .p (.bool c) := congrArg (fun b => LV.p (PV.bool b)) h
theorem Ul {lp : Bs} {f : FuncId} {a : List LV} {s : List LObj} {c : Bool} {x y : LV × List LObj} (h : Runs lp f a s (if c = true then x else y)) (hc : c = true) : Runs lp f a s x := by rwa [if_pos hc] at h
theorem iteF {lp : Bs} {f : FuncId} {a : List LV} {s : List LObj} {c : Bool} {x y : LV × List LObj} (h : Runs lp f a s (if c = true then x else y)) (hc : c = false) : Runs lp f a s y := by rwa [if_neg (by simp [hc])] at h
theorem Ah {b c : Bool} (h : b = c) : (!b) = !c := by rw [h]
end Go.LS
namespace Go.LS
def runE (lp : Bs) (N : Nat) (f : FuncId) (args : List LV) (st : List LObj) (os : Os) : Option (List LV × List LObj × List Prop) :=
 match lp.summ f with
 | some _ => none
 | none => match lp.fns f with
  | none => none
  | some lf => match C7 lp st.length N lf.body (wk (lp.weak f) args ++ List.replicate (lf.ntmps - args.length) .und) st os with
   | some (.exit _, _, _, _, _) => none
   | some (_, t', st', ps, _) => match Jw t' st' lf.results with
    | some vs => some (vs, st', ps)
    | none => none
   | none => none
theorem Be {lp : Bs} {N : Nat} {f : FuncId} {args : List LV} {st st1 s1 st2 : List LObj} {os : Os} {vs vs1 vs2 : List LV} {ps : List Prop} (h : runE lp N f args st os = some (vs, st1, ps)) (hp : Conj ps)
  (hf : frz (lp.wres f) st1 vs = (vs1, s1)) (hg : gc st.length vs1 s1 = some (vs2, st2)) : Runs lp f args st (Ht vs2, st2) := by
 unfold runE at h
 split at h
 ·cases h
 ·rename_i hsm
  split at h
  ·cases h
  ·rename_i lf hlf
   split at h
   ·cases h
   ·rename_i out t1 st1' ps1 os1 hne hex
    split at h
    ·rename_i vs' hvs
     simp only [Option.some.injEq, Prod.mk.injEq] at h
     obtain ⟨rfl, rfl, rfl⟩ := h
     obtain ⟨n, hn⟩ := Ch hex hp.all
     refine ⟨n + 1, ?_⟩
     simp only [Dr, hsm, hlf, hn]
     cases out with
     | exit i => exact (hne i rfl).elim
     | normal => simp only [hvs, hf, hg]
     | ret => simp only [hvs, hf, hg]
    ·cases h
   ·cases h
def Z6 (lp : Bs) (N k : Nat) (mask : List Bool) (c : B0) (t : List LV) (st : List LObj) (os : Os) : Option (List LV × List LObj × List Prop) :=
 match C7 lp k N c t st os with
 | some (.normal, t', st', ps, _) => some (kill mask t', st', ps)
 | _ => none
theorem LoopAt.onS {lp : Bs} {N k : Nat} {mask : List Bool} {c : B0} {t t1 t' : List LV} {st st1 st' : List LObj} {os : Os} {ps : List Prop} {r : Dj × List LV × List LObj}
  (h : Z6 lp N k mask c t st os = some (t1, st1, ps)) (hp : Conj ps) (hg : gc k t1 st1 = some (t', st')) (hr : LoopAt lp k mask c t' st' r) : LoopAt lp k mask c t st r := by
 unfold Z6 at h
 split at h
 ·rename_i t2 st2 ps1 os1 hex
  simp only [Option.some.injEq, Prod.mk.injEq] at h
  obtain ⟨rfl, rfl, rfl⟩ := h
  obtain ⟨n, hn⟩ := (Ch hex hp.all).at
  obtain ⟨m, hm⟩ := hr
  refine ⟨max n m + 1, ?_⟩
  rw [hn (max n m + 1) (by omega)]
  simp only [Bk, hg]
  cases he : Bk (Dr lp m) k m c t' st' with
  | none => rw [he] at hm; cases hm
  | some x =>
   obtain ⟨o2, t3, st3⟩ := x
   rw [he] at hm
   rw [Bn (B5 (show m ≤ max n m + 1 by omega)) (show m ≤ max n m by omega) he]
   cases o2 with
   | normal => exact Bn (B5 (by omega)) (by omega) hm
   | _ => exact hm
 ·cases h
theorem Wp {st sh : List LObj} (hr : st.map LObj.refs = sh.map LObj.refs) (o : Nat) : ((st[o]?).getD .dead).refs = ((sh[o]?).getD .dead).refs := by
 have h : (st.map LObj.refs)[o]? = (sh.map LObj.refs)[o]? := by rw [hr]
 rw [List.getElem?_map, List.getElem?_map] at h
 cases h1 : st[o]? with
 | none => cases h2 : sh[o]? with
  | none => rfl
  | some y => rw [h1, h2] at h; cases h
 | some x => cases h2 : sh[o]? with
  | none => rw [h1, h2] at h; cases h
  | some y => rw [h1, h2] at h; simpa using h
theorem R7 {st sh : List LObj} (hr : st.map LObj.refs = sh.map LObj.refs) : ∀ (n : Nat) (todo acc : List Nat), Eo st n todo acc = Eo sh n todo acc := by
 intro n
 induction n with
 | zero => intro todo acc; cases todo <;> rfl
 | succ n ih =>
  intro todo acc
  cases todo with
  | nil => rfl
  | cons o r => simp only [Eo, ih, Wp hr o]
theorem Pf {st sh : List LObj} (hr : st.map LObj.refs = sh.map LObj.refs) (ids : List Nat) : Eb st ids = Eb sh ids := by
 have hl : st.length = sh.length := by have := congrArg List.length hr; simpa using this
 unfold Eb
 rw [hl]
 congr 1
 funext o
 rw [Wp hr o]
def gcSh (k : Nat) (vs : List LV) (st : List LObj) : Option (List LV × List Nat) :=
 let ids := Js k st (vs.flatMap LV.refs)
 if Eb st ids && (vs.flatMap LV.refs).all (ids.contains ·) && decide ids.Nodup && decide (ids.take k = List.range k) then
  some (vs.map (LV.ren fun q => ids.idxOf q), ids)
 else none
theorem Bf {k : Nat} {vs vs' : List LV} {st sh st' : List LObj} {ids : List Nat} (hr : st.map LObj.refs = sh.map LObj.refs) (hc : gcSh k vs sh = some (vs', ids)) (hs : sub st ids = st') : gc k vs st = some (vs', st') := by
 have e : Js k st (vs.flatMap LV.refs) = Js k sh (vs.flatMap LV.refs) := by
  unfold Js
  rw [R7 hr]
  congr 2
  have : ∀ l : List LObj, l.flatMap LObj.refs = (l.map LObj.refs).flatten := fun l => by rw [List.flatMap_def]
  rw [this, this, List.map_take, List.map_take, hr]
 unfold gcSh at hc
 unfold gc
 simp only at hc ⊢
 rw [e, Pf hr]
 split at hc
 ·rename_i h
  rw [if_pos h]
  simp only [Option.some.injEq, Prod.mk.injEq] at hc
  obtain ⟨rfl, h2⟩ := hc
  rw [← h2] at hs
  rw [hs]
 ·cases hc
end Go.LS
set_option linter.unusedVariables false
set_option linter.unusedSimpArgs false
namespace Go.LS
theorem Z7 (b : UInt8) : unb [.int .u8 b.toNat] = some b := by simp [unb]
theorem M4 : ∀ (L : List UInt8), Or (bs L) = some L
 | [] => rfl
 | b :: r => by
  have := M4 r
  simp only [bs] at this
  simp [bs, Or, Z7, this]
theorem Z8 {v : LV} {L : List UInt8} {st : List LObj} (h : v.asSl = some (bs L)) : Ao A0 [] st (.cv .b2s (.const v)) = some (.p (.str L), st) := by
 have : lcv .b2s v = some (.str L) := by
  cases v <;> simp only [LV.asSl] at h <;> first | (cases h; done) | skip
  case p v =>
   cases v <;> simp only [LV.asSl] at h <;> first | (cases h; done) | skip
   cases h; simp [lcv, LV.asSl, M4]
  case sl es t f => cases h; simp [lcv, LV.asSl, M4]
  case tight es => cases h; simp [lcv, LV.asSl, M4]
 simp [Ao, LX.ev, this]
theorem Ds (L : List UInt8) : (bs L).length = L.length := by simp [bs]
theorem Pg (L M : List UInt8) : bs (L ++ M) = bs L ++ bs M := by simp [bs]
theorem R8 (L : List UInt8) : Hf 1 (bs L) = true := by simp [Hf, bs]
theorem R9 (M : List UInt8) : (bs M).isEmpty = M.isEmpty := by cases M <;> rfl
theorem byte_bs {e : Int} (h0 : 0 ≤ e) (h1 : e ≤ 255) : [[PV.int .u8 e]] = bs [UInt8.ofNat e.toNat] := by
 simp [bs]
 omega
theorem Bv {str : Bool} {L M : List UInt8} {es : List (List PV)} {t : Nat} {st : List LObj} {x : LV} (hs : st[t]? = some (.spare 1 L.length)) (hx : Ez str st x = some es) (he : es = bs M)
  (hl : L.length + M.length ≤ 200000000000000) : Ao A0 [] st (.append str 1 1 (.const (.sl (bs L) t L.length)) (.const x)) = some (.sl (bs (L ++ M)) t (L ++ M).length, st.set t (.spare 1 (L ++ M).length)) := by
 subst he
 refine M8 ?_
 simp only [LX.ev, F2, hx, R8, hs, R9, Ds]
 by_cases hM : M.isEmpty = true
 ·have : M = [] := by simpa using hM
  subst this
  simp
  obtain ⟨h1, h2⟩ := List.getElem?_eq_some_iff.1 hs
  conv => rhs; rw [← h2]
  simp
 ·simp only [hM]
  simp [Pg, maxLen, Za hl]
  omega
theorem Fg {str : Bool} {L M : List UInt8} {es es0 : List (List PV)} {st : List LObj} {x : LV} (he0 : es0 = bs L) (hx : Ez str st x = some es) (he : es = bs M) (hM : M ≠ [])
  (hl : L.length + M.length ≤ 200000000000000) : Ao A0 [] st (.append str 1 1 (.const (.tight es0)) (.const x)) = some (.sl (bs (L ++ M)) st.length (L ++ M).length, st ++ [.spare 1 (L ++ M).length]) := by
 subst he he0
 have : M.isEmpty = false := by cases M <;> simp_all
 refine M8 ?_
 simp only [LX.ev, F2, hx, R8, R9, Ds, this]
 simp [Pg, maxLen, Za hl]
 omega
def Ab (u : Nat) : List UInt8 := if u < 128 then [UInt8.ofNat u] else UInt8.ofNat (u % 128 + 128) :: Ab (u / 128)
termination_by u
decreasing_by omega
theorem Ef : ∀ (u : Nat), u < 2 ^ 64 → (Ab u).length ≤ 10 := by
 have key : ∀ k u, u < 128 ^ (k + 1) → (Ab u).length ≤ k + 1 := by
  intro k
  induction k with
  | zero => intro u hu; rw [Ab]; simp at hu; simp [hu]
  | succ k ih =>
   intro u hu
   rw [Ab]
   split
   ·simp
   ·simp only [List.length_cons]
    have := ih (u / 128) (by rw [Nat.div_lt_iff_lt_mul (by omega)]; rw [Nat.pow_succ] at hu; exact hu)
    omega
 intro u hu
 exact key 9 u (Nat.lt_of_lt_of_le hu (by decide))
end Go.LS
namespace Go.LS
theorem I1 (n : Int) : 0 ≤ IntKind.wrap .u8 n ∧ IntKind.wrap .u8 n ≤ 255 := by
 simp only [IntKind.wrap, IntKind.bits, IntKind.signed]
 simp
 omega
theorem Cg (n : Int) : [[PV.int .u8 (IntKind.wrap .u8 n)]] = bs [UInt8.ofNat (IntKind.wrap .u8 n).toNat] := byte_bs (I1 n).1 (I1 n).2
end Go.LS
namespace Go.LS
theorem Z9 {s : List UInt8} {st : List LObj} (h : s.length ≤ 140737488355328) : Ao A0 [] st (.cv .s2b (.const (.p (.str s)))) = some (.p (.sl (bs s)), st) := by
 simp [Ao, LX.ev, lcv, h]
theorem Dl {n : Nat} (h : n < 2 ^ 64) : IntKind.wrap .u64 (n : Int) = (n : Int) := by
 simp only [IntKind.wrap, IntKind.bits, IntKind.signed]
 simp
 omega
theorem N3 (n : Int) : IntKind.wrap .u64 n = n % 18446744073709551616 := by
 simp only [IntKind.wrap, IntKind.bits, IntKind.signed]
 simp
theorem A9 {n : Int} (h0 : -9223372036854775808 ≤ n) (h1 : n ≤ 9223372036854775807) : IntKind.wrap .i64 n = n := by
 simp only [IntKind.wrap, IntKind.bits, IntKind.signed]
 simp
 omega
end Go.LS
namespace Go.LS
theorem bs_all (L : List UInt8) (n : Nat) (h : n = 1) : ((bs L).all fun e => e.length == n) = true := by subst h; simp [bs]
theorem bs_take (L : List UInt8) (k : Nat) : bs (L.take k) = (bs L).take k := by simp [bs, List.map_take]
theorem Wq (L : List UInt8) (k : Nat) : bs (L.drop k) = (bs L).drop k := by simp [bs, List.map_drop]
theorem Gm (u : Nat) : 0 < (Ab u).length := by rw [Ab]; split <;> simp
theorem vcode_lo {u : Nat} (h : u < 128) : Ab u = [UInt8.ofNat u] := by rw [Ab, if_pos h]
theorem vcode_hi {u : Nat} (h : ¬ u < 128) : Ab u = UInt8.ofNat (u % 128 + 128) :: Ab (u / 128) := by rw [Ab, if_neg h]
end Go.LS
namespace Go.LS
theorem opIs_idx {v : LV} {L : List UInt8} {i : Nat} {c : UInt8} {st : List LObj} (hv : v.asSl = some (bs L)) (hr : v.isRs = false) (h : L[i]? = some c) :
  Ao A0 [] st (.indexAddr 1 (.const v) (.const (.p (.int .i64 ((i : Nat) : Int))))) = some (.pin [.int .u8 c.toNat] 0, st) := by
 have hb : (bs L)[i]? = some [.int .u8 c.toNat] := by simp [bs, h]
 have h0 : ¬ ((i : Int) < 0) := by omega
 cases v <;> simp only [LV.isRs, Bool.true_eq_false] at hr <;> simp only [LV.asSl] at hv <;> first | (cases hv; done) | skip
 all_goals simp [Ao, LX.ev, LV.asInt, LV.asSl, hv, hb, h0]
end Go.LS
namespace Go.LS
theorem D1 {v : LV} {L : List UInt8} {i : Nat} {st : List LObj} (hv : v.asSl = some (bs L)) (hr : v.isRs = false) (h : i < L.length) :
  Ao A0 [] st (.indexAddr 1 (.const v) (.const (.p (.int .i64 ((i : Nat) : Int))))) = some (.pin [.int .u8 ((L.getD i 0).toNat : Int)] 0, st) := by
 rw [opIs_idx hv hr (c := L.getD i 0) (by simp [List.getD, h])]
theorem Hc {M : List UInt8} {k : IntKind} {lo : Int} {st : List LObj} (h0 : 0 ≤ lo) (h : lo ≤ (M.length : Int)) :
  Ao A0 [] st (.slice 1 (.const (.p (.sl (bs M)))) (some (.const (.p (.int k lo)))) none none) = some (.p (.sl (bs (M.drop lo.toNat))), st) := by
 have e : (bs M).take (bs M).length = bs M := List.take_length
 have e2 : (bs M).take M.length = bs M := by rw [← Ds M]; exact e
 simp [Ao, LX.ev, Kw, LV.asSl, bs_all, Hm, bnd, Ds, h0, h, Wq, e2]
theorem Qf {M : List UInt8} {k j : IntKind} {lo hi : Int} {st : List LObj} (h0 : 0 ≤ lo) (h1 : lo ≤ hi) (h : hi ≤ (M.length : Int)) :
  Ao A0 [] st (.slice 1 (.const (.p (.sl (bs M)))) (some (.const (.p (.int k lo)))) (some (.const (.p (.int j hi)))) none) = some (.p (.sl (bs ((M.take hi.toNat).drop lo.toNat))), st) := by
 have hh : 0 ≤ hi := by omega
 have hl : lo ≤ ((hi.toNat : Nat) : Int) := by omega
 have hl2 : lo ≤ max hi 0 := by omega
 simp [Ao, LX.ev, Kw, LV.asSl, bs_all, Hm, bnd, Ds, h0, hh, hl, hl2, h, bs_take, Wq]
 split
 ·rename_i v hv
  split at hv
  ·rename_i h1
   cases hv
   rw [h1.1, ← Ds M, List.take_length]
  ·cases hv; rfl
 ·rename_i hv; split at hv <;> cases hv
theorem N4 {M : List UInt8} {k : IntKind} {hi : Int} {st : List LObj} (h0 : 0 ≤ hi) (h : hi ≤ (M.length : Int)) :
  Ao A0 [] st (.sslice (.const (.p (.str M))) none (some (.const (.p (.int k hi)))) none) = some (.p (.str (M.take hi.toNat)), st) := by
 simp [Ao, LX.ev, Hm, bnd, h0, h]
theorem H6 {k j : IntKind} {a b : Int} {st : List LObj} (h : 0 ≤ b) :
  Ao A0 [] st (.bin .shl (.const (.p (.int k a))) (.const (.p (.int j b)))) = some (.p (.int k (IntKind.wrap k (a * 2 ^ min (Int.toNat b) k.bits))), st) := by
 have h0 : ¬ b < 0 := by omega
 simp [Ao, LX.ev, Y9, h0]
theorem Aw {lp : Bs} {f : FuncId} {args : List LV} {st : List LObj} {c : Prop} [Decidable c] {a b : LV × List LObj} (k : c) (h : Runs lp f args st a) : Runs lp f args st (if c then a else b) := by rwa [if_pos k]
theorem Ax {lp : Bs} {f : FuncId} {args : List LV} {st : List LObj} {c : Prop} [Decidable c] {a b : LV × List LObj} (k : ¬ c) (h : Runs lp f args st b) : Runs lp f args st (if c then a else b) := by rwa [if_neg k]
theorem At {v : LV} {E : List (List PV)} {e : List PV} {z : Nat} {i : Nat} {st : List LObj} (hv : v.asSl = some E) (hr : v.isRs = false) (h : E[i]? = some e) (hz : e.length = z) :
  Ao A0 [] st (.indexAddr z (.const v) (.const (.p (.int .i64 ((i : Nat) : Int))))) = some (.pin e 0, st) := by
 have h0 : ¬ ((i : Int) < 0) := by omega
 cases v <;> simp only [LV.isRs, Bool.true_eq_false] at hr <;> simp only [LV.asSl] at hv <;> first | (cases hv; done) | skip
 all_goals simp [Ao, LX.ev, LV.asInt, LV.asSl, hv, h, h0, hz]
end Go.LS
set_option linter.unusedVariables false
set_option linter.unusedSimpArgs false
namespace Go.LS
inductive Cty where
 | bool
 | int (k : IntKind)
 | str
 | sl (ts : List Cty) (bytes : Nat)
 | pr (Q : List PV → Prop) (bytes : Nat)
mutual
def X3 : Cty → PV → Prop
 | .bool, p => ∃ b, p = .bool b
 | .int k, p => ∃ n, p = .int k n ∧ k.min ≤ n ∧ n ≤ k.max
 | .str, p => ∃ s, p = .str s ∧ s.length ≤ reachBytes
 | .sl ts bytes, p => ∃ es : List (List PV), p = .sl es ∧ es.length * bytes ≤ reachBytes ∧ es.length ≤ maxLen ∧ ∀ e ∈ es, B6 ts e
 | .pr Q bytes, p => ∃ es : List (List PV), p = .sl es ∧ es.length * bytes ≤ reachBytes ∧ es.length ≤ maxLen ∧ ∀ e ∈ es, Q e
def B6 : List Cty → List PV → Prop
 | [], ps => ps = []
 | t :: ts, ps => ∃ p r, ps = p :: r ∧ X3 t p ∧ B6 ts r
end
def Mz (P : Program) (rc : TypeId → Option (List Cty)) : Nat → List Field → Option (List Cty)
 | _, [] => some []
 | off, f :: r => match rc f.type with
  | some ts => if f.offset = off ∧ ts.length = P.cellsOf f.type then
    match Mz P rc (off + ts.length) r with
    | some l => some (ts ++ l)
    | none => none
   else none
  | none => none
def tyT (P : Program) (cut : List TypeId) (Q : TypeId → List PV → Prop) : Nat → TypeId → Option (List Cty)
 | 0, _ => none
 | n + 1, t => match P.underlying t with
  | some .bool => some [.bool]
  | some (.int k) => some [.int k]
  | some .string => some [.str]
  | some (.slice e) => if e ∈ cut then some [.pr (Q e) (P.bytesOf e)] else match tyT P cut Q n e with
   | some ts => if ts.length = P.cellsOf e ∧ 0 < ts.length then some [.sl ts (P.bytesOf e)] else none
   | none => none
  | some (.struct fs) => match Mz P (tyT P cut Q n) 0 fs.toList with
   | some ts => if ts.length = P.cellsOf t then some ts else none
   | none => none
  | some (.array m e) => match tyT P cut Q n e with
   | some ts => if m * ts.length = P.cellsOf t ∧ ts.length = P.cellsOf e then some (List.replicate m ts).flatten else none
   | none => none
  | _ => none
def RecOk (P : Program) (cut : List TypeId) (N : Nat) : Nat → TypeId → List PV → Prop
 | 0, _, _ => False
 | k + 1, t, ps => ∃ ts, tyT P cut (RecOk P cut N k) N t = some ts ∧ B6 ts ps
def Sub2 (Q R : TypeId → List PV → Prop) : Prop := ∀ e x, Q e x → R e x
def Cle (ts us : List Cty) : Prop := us.length = ts.length ∧ ∀ ps, B6 ts ps → B6 us ps
theorem Cle.append {a b c d : List Cty} (h : Cle a b) (k : Cle c d) : Cle (a ++ c) (b ++ d) := by
 refine ⟨by simp [h.1, k.1], ?_⟩
 have : ∀ (a b : List Cty), b.length = a.length → (∀ ps, B6 a ps → B6 b ps) → ∀ ps, B6 (a ++ c) ps → B6 (b ++ d) ps := by
  intro a b hl hab ps hp
  obtain ⟨p1, p2, rfl, h1, h2⟩ := split a c ps hp
  exact join b d p1 p2 (hab _ h1) (k.2 _ h2)
 exact this a b h.1 h.2
where
 split : ∀ (a c : List Cty) (ps : List PV), B6 (a ++ c) ps → ∃ p1 p2, ps = p1 ++ p2 ∧ B6 a p1 ∧ B6 c p2
  | [], c, ps, h => ⟨[], ps, rfl, by simp [B6], h⟩
  | t :: a, c, ps, h => by
   simp only [List.cons_append, B6] at h
   obtain ⟨p, r, rfl, h1, h2⟩ := h
   obtain ⟨p1, p2, rfl, h3, h4⟩ := split a c r h2
   exact ⟨p :: p1, p2, rfl, by simp only [B6]; exact ⟨p, p1, rfl, h1, h3⟩, h4⟩
 join : ∀ (a c : List Cty) (p1 p2 : List PV), B6 a p1 → B6 c p2 → B6 (a ++ c) (p1 ++ p2)
  | [], c, p1, p2, h, k => by simp only [B6] at h; subst h; exact k
  | t :: a, c, p1, p2, h, k => by
   simp only [B6] at h
   obtain ⟨p, r, rfl, h1, h2⟩ := h
   simp only [List.cons_append, B6]
   exact ⟨p, r ++ p2, rfl, h1, join a c r p2 h2 k⟩
theorem Ph {P : Program} {rc rd : TypeId → Option (List Cty)} (h : ∀ t ts, rc t = some ts → ∃ us, rd t = some us ∧ Cle ts us) : ∀ {fs : List Field} {off : Nat} {ts : List Cty}, Mz P rc off fs = some ts → ∃ us, Mz P rd off fs = some us ∧ Cle ts us
 | [], off, ts, he => by simp only [Mz] at he; cases he; exact ⟨[], rfl, rfl, fun _ h => h⟩
 | f :: fs, off, ts, he => by
  simp only [Mz] at he
  split at he
  ·rename_i t1 h1
   split at he
   ·rename_i hc
    split at he
    ·rename_i l h2
     cases he
     obtain ⟨u1, g1, g2⟩ := h _ _ h1
     obtain ⟨u2, k1, k2⟩ := Ph h h2
     refine ⟨u1 ++ u2, ?_, g2.append k2⟩
     simp only [Mz, g1]
     rw [if_pos ⟨hc.1, by rw [g2.1]; exact hc.2⟩, g2.1, k1]
    ·cases he
   ·cases he
  ·cases he
theorem Cle.rep {a b : List Cty} (h : Cle a b) : ∀ m, Cle (List.replicate m a).flatten (List.replicate m b).flatten
 | 0 => ⟨rfl, fun _ h => h⟩
 | m + 1 => by rw [List.replicate_succ, List.replicate_succ, List.flatten_cons, List.flatten_cons]; exact h.append (h.rep m)
theorem Gn {P : Program} {cut : List TypeId} {Q R : TypeId → List PV → Prop} (hQ : Sub2 Q R) : ∀ {n : Nat} {t : TypeId} {ts : List Cty}, tyT P cut Q n t = some ts → ∃ us, tyT P cut R n t = some us ∧ Cle ts us
 | 0, t, ts, h => by simp [tyT] at h
 | n + 1, t, ts, h => by
  simp only [tyT] at h ⊢
  split at h
  ·cases h; exact ⟨_, rfl, rfl, fun _ h => h⟩
  ·cases h; exact ⟨_, rfl, rfl, fun _ h => h⟩
  ·cases h; exact ⟨_, rfl, rfl, fun _ h => h⟩
  ·rename_i e hu
   split at h
   ·rename_i hc
    cases h
    rw [if_pos hc]
    refine ⟨_, rfl, rfl, fun ps hp => ?_⟩
    simp only [B6, X3] at hp ⊢
    obtain ⟨p, r, rfl, ⟨es, rfl, a1, a2, a3⟩, h2⟩ := hp
    exact ⟨_, _, rfl, ⟨es, rfl, a1, a2, fun x hx => hQ _ _ (a3 x hx)⟩, h2⟩
   ·rename_i hc
    rw [if_neg hc]
    split at h
    ·rename_i us hus
     split at h
     ·rename_i hl
      cases h
      obtain ⟨vs, g1, g2⟩ := Gn hQ hus
      simp only [g1]
      rw [if_pos ⟨by rw [g2.1]; exact hl.1, by rw [g2.1]; exact hl.2⟩]
      refine ⟨_, rfl, rfl, fun ps hp => ?_⟩
      simp only [B6, X3] at hp ⊢
      obtain ⟨p, r, rfl, ⟨es, rfl, a1, a2, a3⟩, h2⟩ := hp
      exact ⟨_, _, rfl, ⟨es, rfl, a1, a2, fun x hx => g2.2 _ (a3 x hx)⟩, h2⟩
     ·cases h
    ·cases h
  ·split at h
   ·rename_i us hus
    split at h
    ·rename_i hl
     cases h
     obtain ⟨vs, g1, g2⟩ := Ph (fun t ts h => Gn hQ h) hus
     simp only [g1]
     rw [if_pos (by rw [g2.1]; exact hl)]
     exact ⟨_, rfl, g2⟩
    ·cases h
   ·cases h
  ·rename_i m e hu
   split at h
   ·rename_i us hus
    split at h
    ·rename_i hl
     cases h
     obtain ⟨vs, g1, g2⟩ := Gn hQ hus
     simp only [g1]
     rw [if_pos ⟨by rw [g2.1]; exact hl.1, by rw [g2.1]; exact hl.2⟩]
     exact ⟨_, rfl, g2.rep m⟩
    ·cases h
   ·cases h
  ·cases h
theorem RecOk.mono {P : Program} {cut : List TypeId} {N : Nat} : ∀ k, Sub2 (RecOk P cut N k) (RecOk P cut N (k + 1))
 | 0, e, x, h => h.elim
 | k + 1, e, x, h => by
  obtain ⟨ts, h1, h2⟩ := h
  obtain ⟨us, g1, g2⟩ := Gn (RecOk.mono k) h1
  exact ⟨us, g1, g2.2 _ h2⟩
abbrev Ek (w : World) : Nat → Nat → Option Value := fun b o => w.cell? ⟨b, o, none⟩
def CellsOk (F : Nat → Nat → Option Value) (ts : List Cty) (cs : List Value) (ps : List PV) : Prop :=
 cs.length = ps.length ∧ B6 ts ps ∧ ∀ (i : Nat) p, ps[i]? = some p → ∃ u, cs[i]? = some u ∧ VP F p u
theorem Kk : ∀ {ts us : List Cty} {ps qs : List PV}, B6 ts ps → B6 us qs → B6 (ts ++ us) (ps ++ qs)
 | [], us, ps, qs, h, k => by simp only [B6] at h; subst h; simpa using k
 | t :: ts, us, ps, qs, h, k => by
  simp only [B6] at h
  obtain ⟨p, r, rfl, h1, h2⟩ := h
  simp only [List.cons_append, B6]
  exact ⟨p, r ++ qs, rfl, h1, Kk h2 k⟩
theorem Hd : ∀ {ts : List Cty} {ps : List PV}, B6 ts ps → ps.length = ts.length
 | [], ps, h => by simp only [B6] at h; subst h; rfl
 | t :: ts, ps, h => by
  simp only [B6] at h
  obtain ⟨p, r, rfl, h1, h2⟩ := h
  simp [Hd h2]
theorem CellsOk.append {F : Nat → Nat → Option Value} {ts us : List Cty} {cs ds : List Value} {ps qs : List PV} (h : CellsOk F ts cs ps) (k : CellsOk F us ds qs) : CellsOk F (ts ++ us) (cs ++ ds) (ps ++ qs) := by
 refine ⟨by simp [h.1, k.1], Kk h.2.1 k.2.1, fun i p hi => ?_⟩
 by_cases hlt : i < ps.length
 ·rw [List.getElem?_append_left hlt] at hi
  rw [List.getElem?_append_left (by rw [h.1]; exact hlt)]
  exact h.2.2 i p hi
 ·rw [List.getElem?_append_right (by omega)] at hi
  rw [List.getElem?_append_right (by rw [h.1]; omega), h.1]
  exact k.2.2 _ p hi
theorem CellsOk.one {F : Nat → Nat → Option Value} {t : Cty} {p : PV} {u : Value} (h : X3 t p) (k : VP F p u) : CellsOk F [t] [u] [p] := by
 refine ⟨rfl, ?_, fun i q hi => ?_⟩
 ·simp only [B6]; exact ⟨p, [], rfl, h, rfl⟩
 ·cases i with
  | zero => simp at hi; subst hi; exact ⟨u, rfl, k⟩
  | succ i => simp at hi
section
variable {H : Type} {enc : TypeId × Value → H} {P : Program} {W : World}
theorem H7 {e : TypeId} : ∀ {ds : List (DataW H)} {d : DataW H} {x : Nat}, d ∈ ds → x ∈ d.weights P e → x ∈ DataW.weightsAll P e ds
 | [], d, x, hd, _ => by cases hd
 | y :: r, d, x, hd, hx => by
  simp only [DataW.weightsAll, List.mem_append]
  rcases List.mem_cons.1 hd with rfl | hd
  ·exact .inl hx
  ·exact .inr (H7 hd hx)
theorem Pi {n : Nat} {rc : TypeId → Option (List Cty)}
  (ih : ∀ t cs d ps ts, DataW.trod enc P W 0 (fun _ => true) true n t cs = some (d, ps) → rc t = some ts → (∀ x ∈ d.weights P t, x ≤ reachBytes) → ∃ pv, CellsOk (Ek W) ts cs pv) :
  ∀ (fs : List Field) (off : Nat) (cs : List Value) (xs : List (DataW H × List MemPlace)) (ts : List Cty), Mz P rc off fs = some ts → xs.length = fs.length →
   (∀ (i : Nat) f, fs[i]? = some f → DataW.trod enc P W 0 (fun _ => true) true n f.type ((cs.drop (f.offset - off)).take (P.cellsOf f.type)) = xs[i]?) →
   (∀ x ∈ DataW.weightsEach P (fs.map (·.type)) (xs.map (·.1)), x ≤ reachBytes) → cs.length = ts.length → ∃ pv, CellsOk (Ek W) ts cs pv
 | [], off, cs, xs, ts, ht, _, _, _, hl => by
  simp only [Mz] at ht; cases ht
  simp at hl
  subst hl
  exact ⟨[], rfl, rfl, by simp⟩
 | f :: fs, off, cs, xs, ts, ht, hx, hg, hw, hl => by
  simp only [Mz] at ht
  split at ht
  ·rename_i ts1 h1
   split at ht
   ·rename_i hc
    split at ht
    ·rename_i l h2
     cases ht
     cases xs with
     | nil => simp at hx
     | cons x xs =>
      have g0 := hg 0 f rfl
      rw [hc.1, Nat.sub_self] at g0
      simp only [List.drop_zero, List.getElem?_cons_zero] at g0
      simp only [List.map_cons, DataW.weightsEach, List.mem_append] at hw
      obtain ⟨pv1, c1⟩ := ih _ _ x.1 x.2 _ g0 h1 (fun y hy => hw y (.inl hy))
      rw [List.length_append] at hl
      have hd : (cs.drop ts1.length).length = l.length := by simp [hl]
      obtain ⟨pv2, c2⟩ := Pi ih fs (off + ts1.length) (cs.drop ts1.length) xs l h2 (by simpa using hx) (fun i f' hf => by
       have := hg (i + 1) f' (by simpa using hf)
       simp only [List.getElem?_cons_succ] at this
       rw [← this, List.drop_drop]
       have hle : off + ts1.length ≤ f'.offset := tyFs_le h2 i f' hf
       congr 3
       omega) (fun y hy => hw y (.inr hy)) hd
      have e : cs = (cs.take (P.cellsOf f.type)) ++ cs.drop ts1.length := by rw [← hc.2, List.take_append_drop]
      rw [e]
      exact ⟨pv1 ++ pv2, c1.append c2⟩
    ·cases ht
   ·cases ht
  ·cases ht
where
 tyFs_le {rc : TypeId → Option (List Cty)} : ∀ {fs : List Field} {off : Nat} {ts : List Cty}, Mz P rc off fs = some ts → ∀ (i : Nat) f, fs[i]? = some f → off ≤ f.offset
 | [], _, _, _, i, f, hf => by simp at hf
 | g :: fs, off, ts, h, i, f, hf => by
  simp only [Mz] at h
  split at h
  ·rename_i ts1 h1
   split at h
   ·rename_i hc
    split at h
    ·rename_i l h2
     cases i with
     | zero => simp at hf; subst hf; omega
     | succ i => have := tyFs_le h2 i f (by simpa using hf); omega
    ·cases h
   ·cases h
  ·cases h
theorem arr_pv {n : Nat} {e : TypeId} {ts : List Cty}
  (ih : ∀ cs d ps, DataW.trod enc P W 0 (fun _ => true) true n e cs = some (d, ps) → (∀ x ∈ d.weights P e, x ≤ reachBytes) → ∃ pv, CellsOk (Ek W) ts cs pv) (hc : ts.length = P.cellsOf e) :
  ∀ (m : Nat) (cs : List Value) (xs : List (DataW H × List MemPlace)), xs.length = m → cs.length = m * ts.length →
   (∀ i, i < m → DataW.trod enc P W 0 (fun _ => true) true n e ((cs.drop (i * P.cellsOf e)).take (P.cellsOf e)) = xs[i]?) →
   (∀ x ∈ DataW.weightsAll P e (xs.map (·.1)), x ≤ reachBytes) → ∃ pv, CellsOk (Ek W) (List.replicate m ts).flatten cs pv
 | 0, cs, xs, hx, hl, _, _ => by
  simp at hl
  subst hl
  exact ⟨[], rfl, rfl, by simp⟩
 | m + 1, cs, xs, hx, hl, hg, hw => by
  cases xs with
  | nil => simp at hx
  | cons x xs =>
   have g0 := hg 0 (by omega)
   simp only [Nat.zero_mul, List.drop_zero, List.getElem?_cons_zero] at g0
   simp only [List.map_cons, DataW.weightsAll, List.mem_append] at hw
   obtain ⟨pv1, c1⟩ := ih _ x.1 x.2 g0 (fun y hy => hw y (.inl hy))
   obtain ⟨pv2, c2⟩ := arr_pv ih hc m (cs.drop ts.length) xs (by simpa using hx) (by rw [List.length_drop, hl, Nat.add_mul]; omega) (fun i hi => by
    have := hg (i + 1) (by omega)
    simp only [List.getElem?_cons_succ] at this
    rw [← this, List.drop_drop]
    congr 3
    rw [Nat.add_mul, hc]; omega) (fun y hy => hw y (.inr hy))
   have e1 : cs = (cs.take (P.cellsOf e)) ++ cs.drop ts.length := by rw [← hc, List.take_append_drop]
   rw [e1, List.replicate_succ, List.flatten_cons]
   exact ⟨pv1 ++ pv2, c1.append c2⟩
theorem Mc {α : Type} {R : Nat → α → Prop} : ∀ (n : Nat), (∀ i, i < n → ∃ a, R i a) → ∃ l : List α, l.length = n ∧ ∀ i a, l[i]? = some a → R i a
 | 0, _ => ⟨[], rfl, by simp⟩
 | n + 1, h => by
  obtain ⟨l, h1, h2⟩ := Mc n (fun i hi => h i (by omega))
  obtain ⟨a, ha⟩ := h n (by omega)
  refine ⟨l ++ [a], by simp [h1], fun i b hb => ?_⟩
  rcases Bd hb with ⟨_, hb⟩ | ⟨rfl, rfl⟩
  ·exact h2 i b hb
  ·rw [h1]; exact ha
theorem trod_pv {cut : List TypeId} {N : Nat} (hcut : ∀ e ∈ cut, ∀ Q, ∃ ts, tyT P cut Q N e = some ts ∧ ts.length = P.cellsOf e ∧ 0 < ts.length) : ∀ (fuel : Nat) (Q : TypeId → List PV → Prop) (hQ : Sub2 (RecOk P cut N fuel) Q) (n : Nat) (t : TypeId) (cs : List Value) (d : DataW H) (ps : List MemPlace) (ts : List Cty),
  DataW.trod enc P W 0 (fun _ => true) true fuel t cs = some (d, ps) → tyT P cut Q n t = some ts → (∀ x ∈ d.weights P t, x ≤ reachBytes) → ∃ pv, CellsOk (Ek W) ts cs pv := by
 intro fuel
 induction fuel with
 | zero => intro Q hQ n t cs d ps ts h; simp [DataW.trod] at h
 | succ fuel ih0 =>
  intro Q hQ n t cs d ps ts h ht hw
  have ih := ih0 Q (fun e x hx => hQ e x (RecOk.mono fuel e x hx))
  cases n with
  | zero => simp [tyT] at ht
  | succ n =>
   simp only [tyT] at ht
   split at ht
   ·rename_i hu
    cases ht
    obtain ⟨b, rfl, e⟩ := DataW.trod_bool hu h
    exact ⟨[.bool b], .one ⟨b, rfl⟩ (.bool b)⟩
   ·rename_i k hu
    cases ht
    obtain ⟨m, rfl, e, hwf⟩ := DataW.trod_int hu h
    refine ⟨[.int k m], .one ⟨m, rfl, ?_⟩ (.int k m)⟩
    simpa [Lit.wf] using hwf
   ·rename_i hu
    cases ht
    obtain ⟨s, rfl, e, hwf⟩ := DataW.trod_string hu h
    cases e
    have := hw s.data.toList.length (by simp [DataW.weights])
    exact ⟨[.str s.data.toList], .one ⟨_, rfl, this⟩ (by have := VP.str (F := Ek W) s.data.toList; simpa using this)⟩
   ·rename_i e hu
    have slc : ∀ (us : List Cty) (c : Cty), us.length = P.cellsOf e → 0 < us.length → (∀ es : List (List PV), es.length * P.bytesOf e ≤ reachBytes → es.length ≤ maxLen → (∀ x ∈ es, B6 us x) → X3 c (.sl es)) →
      (∀ cs d ps, DataW.trod enc P W 0 (fun _ => true) true fuel e cs = some (d, ps) → (∀ x ∈ d.weights P e, x ≤ reachBytes) → ∃ pv, CellsOk (Ek W) us cs pv) → ∃ pv, CellsOk (Ek W) [c] cs pv := by
     intro us c hc1 hc2 hokc ihe
     rcases DataW.trod_slice hu h with ⟨rfl, _⟩ | ⟨a, len, cap, elems, rest, m, hm, rfl, hx, _, hlc, hcm, hel, hg, hsp, _⟩
     ·exact ⟨[.sl []], .one (hokc [] (by simp) (by simp) (by simp)) .nils⟩
     ·obtain rfl : m = fuel := by omega
      cases hx
      have hwl : (elems.length + rest.length) * P.bytesOf e ≤ reachBytes := hw _ (by simp [DataW.weights, hu])
      have each : ∀ i, i < len → ∃ pv : List PV, B6 us pv ∧ pv.length = us.length ∧ ∀ (j : Nat) p, pv[j]? = some p → ∃ u, W.cell? ((a.add (i * P.cellsOf e)).add j) = some u ∧ VP (Ek W) p u := by
       intro i hi
       have := hg i hi
       have hlt : i < elems.length := by omega
       rw [List.getElem?_eq_getElem hlt, Option.bind_eq_some_iff] at this
       obtain ⟨cs', h1, h2⟩ := this
       obtain ⟨pv, c1, c2, c3⟩ := ihe cs' elems[i].1 elems[i].2 (by rw [h2]) (fun x hx => hw x (by
        simp only [DataW.weights, hu, List.mem_cons, List.mem_append]
        exact .inr (.inl (H7 (List.mem_map.2 ⟨elems[i], List.getElem_mem _, rfl⟩) hx))))
       refine ⟨pv, c2, Hd c2, fun j p hj => ?_⟩
       obtain ⟨u, hu', hv⟩ := c3 j p hj
       refine ⟨u, ?_, hv⟩
       unfold World.cells? at h1
       split at h1
       ·have := mapM_some_get h1 j j (by
         have := (List.getElem?_eq_some_iff.1 hu').1
         have := mapM_some_length h1
         simp at this
         rw [List.getElem?_range (by omega)])
        rw [this]; exact hu'
       ·cases h1
      obtain ⟨es, e1, e2⟩ := Mc len each
      have hall : ∀ x ∈ es, B6 us x ∧ x.length = us.length := by
       intro x hx
       obtain ⟨i, hi⟩ := List.getElem?_of_mem hx
       exact ⟨(e2 i x hi).1, (e2 i x hi).2.1⟩
      have hok : X3 c (.sl es) := hokc es (Nat.le_trans (Nat.mul_le_mul_right _ (by omega)) hwl) (by omega) (fun x hx => (hall x hx).1)
      by_cases h0 : len = 0
      ·subst h0
       have : es = [] := List.eq_nil_of_length_eq_zero e1
       subst this
       exact ⟨[.sl []], .one hok (.sl0 a cap hcm)⟩
      ·have hspot : a.spot = none := by
        obtain ⟨x, hx⟩ : ∃ x, es[0]? = some x := ⟨es[0]'(by omega), by simp [show 0 < es.length by omega]⟩
        obtain ⟨_, hxl, hcell⟩ := e2 0 x hx
        obtain ⟨p, hp⟩ : ∃ p, x[0]? = some p := ⟨x[0]'(by omega), by simp [show 0 < x.length by omega]⟩
        obtain ⟨u, hu', _⟩ := hcell 0 p hp
        simp only [Nat.zero_mul, Addr.add, if_true] at hu'
        unfold World.cell? at hu'
        split at hu'
        ·split at hu'
         ·cases hu'
         ·rename_i hs; simpa using hs
        ·cases hu'
       obtain ⟨b, off, sp⟩ := a
       simp only at hspot
       subst hspot
       refine ⟨[.sl es], .one hok ?_⟩
       have key : ∀ i j p, at2 es i j = some p → ∃ u, Ek W b (off + i * us.length + j) = some u ∧ VP (Ek W) p u := by
        intro i j p hp
        unfold at2 at hp
        rw [Option.bind_eq_some_iff] at hp
        obtain ⟨x, hx, hj⟩ := hp
        obtain ⟨_, _, hcell⟩ := e2 i x hx
        obtain ⟨u, hu', hv⟩ := hcell j p hj
        refine ⟨u, ?_, hv⟩
        rw [Addr.add_lit, Addr.add_lit, ← hc1] at hu'
        exact hu'
       have := VP.mk (F := Ek W) (es := es) (size := us.length) (b := b) (off := off) (cap := cap) (by omega) hcm (fun x hx => (hall x hx).2) key
       rw [e1] at this
       exact this
    split at ht
    ·rename_i hcu
     cases ht
     obtain ⟨us, k1, k2, k3⟩ := hcut e hcu (RecOk P cut N fuel)
     refine slc us _ k2 k3 (fun es h1 h2 h3 => ⟨es, rfl, h1, h2, fun x hx => hQ e x ⟨us, k1, h3 x hx⟩⟩) (fun cs d ps h1 h2 => ih0 (RecOk P cut N fuel) (fun _ _ h => h) N e cs d ps us h1 k1 h2)
    ·split at ht
     ·rename_i us hus
      split at ht
      ·rename_i hc
       cases ht
       exact slc us _ hc.1 hc.2 (fun es h1 h2 h3 => ⟨es, rfl, h1, h2, h3⟩) (fun cs d ps h1 h2 => ih n e cs d ps us h1 hus h2)
      ·cases ht
     ·cases ht
   ·rename_i fs hu
    split at ht
    ·rename_i us hus
     split at ht
     ·rename_i hc
      rw [← Option.some.inj ht]
      obtain ⟨xs, m, hm, hx, hl, hxl, hg⟩ := DataW.trod_struct hu h
      obtain rfl : m = fuel := by omega
      cases hx
      refine Pi (fun t cs d ps ts h1 h2 h3 => ih n t cs d ps ts h1 h2 h3) fs.toList 0 cs xs us hus (by simp [hxl]) (fun i f hf => ?_) (fun x hx => hw x (by simp [DataW.weights, hu, hx])) (by rw [hl, hc])
      simpa using hg i f (by simpa using hf)
     ·cases ht
    ·cases ht
   ·rename_i m e hu
    split at ht
    ·rename_i us hus
     split at ht
     ·rename_i hc
      cases ht
      obtain ⟨xs, q, hq, hx, hl, hxl, hg⟩ := DataW.trod_array hu h
      obtain rfl : q = fuel := by omega
      cases hx
      exact arr_pv (fun cs d ps h1 h3 => ih n e cs d ps us h1 hus h3) hc.2 m cs xs hxl (by rw [hl, hc.1]) hg (fun x hx => hw x (by simp [DataW.weights, hu, hx]))
     ·cases ht
    ·cases ht
   ·cases ht
def Sc (agg : Bool) (ps : List PV) : LV := if agg then .agg (ps.map .p) else match ps with | [p] => .p p | _ => .und
def Kl (P : Program) (cut : List TypeId) (Q : TypeId → List PV → Prop) (n : Nat) : List TypeId → Option (List (Bool × List Cty))
 | [] => some []
 | t :: r => match P.underlying t, tyT P cut Q n t, Kl P cut Q n r with
  | some d, some ts, some l => some ((Iw d, ts) :: l)
  | _, _, _ => none
def OkArgs : List (Bool × List Cty) → List LV → Prop
 | [], l => l = []
 | (agg, ts) :: r, l => ∃ ps m, l = Sc agg ps :: m ∧ B6 ts ps ∧ OkArgs r m
theorem tyT_one {cut : List TypeId} {Q : TypeId → List PV → Prop} {n : Nat} {t : TypeId} {d : TypeDesc} {ts : List Cty} (hd : P.underlying t = some d) (ha : Iw d = false) (h : tyT P cut Q n t = some ts) : ts.length = 1 := by
 cases n with
 | zero => simp [tyT] at h
 | succ n =>
  simp only [tyT, hd] at h
  cases d <;> simp only [Iw, Bool.true_eq_false] at ha <;> first | (cases h; rfl) | skip
  all_goals
   simp only at h
   first
    | (split at h
       ·cases h; rfl
       ·split at h
        ·split at h
         ·cases h; rfl
         ·cases h
        ·cases h)
    | (split at h
       ·split at h
        ·cases h; rfl
        ·cases h
       ·cases h)
    | cases h
theorem Pj {cut : List TypeId} {Q R : TypeId → List PV → Prop} (hQ : Sub2 Q R) {n : Nat} : ∀ {ts : List TypeId} {a b : List (Bool × List Cty)}, Kl P cut Q n ts = some a → Kl P cut R n ts = some b → ∀ vs, OkArgs a vs → OkArgs b vs
 | [], a, b, h, k, vs, hv => by simp only [Kl] at h k; cases h; cases k; exact hv
 | t :: r, a, b, h, k, vs, hv => by
  simp only [Kl] at h k
  split at h
  ·rename_i d ts l h1 h2 h3
   cases h
   obtain ⟨us, g1, g2⟩ := Gn hQ h2
   split at k
   ·rename_i d' ts' l' e1 e2 e3
    rw [h1] at e1; rw [g1] at e2
    cases e1; cases e2; cases k
    obtain ⟨ps, m, rfl, a1, a2⟩ := hv
    exact ⟨ps, m, rfl, g2.2 _ a1, Pj hQ h3 e3 _ a2⟩
   ·cases k
  ·cases h
theorem RecOk.le {cut : List TypeId} {N : Nat} : ∀ {k m : Nat}, k ≤ m → Sub2 (RecOk P cut N k) (RecOk P cut N m)
 | k, m, h => by
  induction h with
  | refl => exact fun _ _ h => h
  | step _ ih => exact fun e x hx => RecOk.mono _ e x (ih e x hx)
theorem Wu {cut : List TypeId} {N : Nat} (hcut : ∀ e ∈ cut, ∀ Q, ∃ ts, tyT P cut Q N e = some ts ∧ ts.length = P.cellsOf e ∧ 0 < ts.length) {n : Nat} {G : Gh} (hG : G.F = Ek W) : ∀ {ts : List TypeId} {vs : List Value} {ds gs : List (DataW H)} {us : List TypeId} {ps : List MemPlace} {tys : Nat → List (Bool × List Cty)}, DataW.TrodAll enc P W 0 (fun _ => true) true ts vs ds ps → (∀ k, Kl P cut (RecOk P cut N k) n ts = some (tys k)) →
  (∀ (j : Nat) t v, ts[j]? = some t → vs[j]? = some v → Value.okWide P W .any 0 t v ∨ ∃ base, Value.okWide P W .any base t v) → (∀ x ∈ DataW.weightsEach P (ts ++ us) (ds ++ gs), x ≤ reachBytes) →
  ∃ k, ∃ args, OkArgs (tys k) args ∧ args.length = vs.length ∧ ∀ (i : Nat) x u, args[i]? = some x → vs[i]? = some u → VL G x u
 | [], vs, ds, gs, us, ps, tys, h, ht, _, _ => by
  have := ht 0
  simp only [Kl, Option.some.injEq] at this
  obtain ⟨rfl, _, _⟩ := ChangeShapes.trodAll_nil h
  exact ⟨0, [], by rw [← this]; rfl, rfl, by simp⟩
 | t :: ts, vs, ds, gs, us, ps, tys, h, ht, hok, hw => by
  have hk : ∀ k, ∃ dd tt ll, P.underlying t = some dd ∧ tyT P cut (RecOk P cut N k) n t = some tt ∧ Kl P cut (RecOk P cut N k) n ts = some ll ∧ tys k = (Iw dd, tt) :: ll := by
   intro k
   have := ht k
   simp only [Kl] at this
   split at this
   ·rename_i dd tt ll h1 h2 h3
    exact ⟨dd, tt, ll, h1, h2, h3, (Option.some.inj this).symm⟩
   ·cases this
  have hl' : ∀ k, Kl P cut (RecOk P cut N k) n ts = some ((Kl P cut (RecOk P cut N k) n ts).getD []) := by
   intro k
   obtain ⟨dd, tt, ll, _, _, h3, _⟩ := hk k
   rw [h3]; rfl
  ·obtain ⟨v, vs', d, ds', p, q, rfl, rfl, rfl, ⟨fuel, h1⟩, h2⟩ := ChangeShapes.trodAll_cons h
   simp only [List.cons_append, DataW.weightsEach, List.mem_append] at hw
   obtain ⟨dd, tt, ll0, hd, htt, _, _⟩ := hk fuel
   obtain ⟨pv, c1, c2, c3⟩ := trod_pv hcut fuel _ (fun _ _ h => h) n t _ d p tt h1 htt (fun x hx => hw x (.inl hx))
   obtain ⟨k', args, a1, a2, a3⟩ := Wu hcut (n := n) hG h2 (tys := fun k => (Kl P cut (RecOk P cut N k) n ts).getD []) hl' (fun j t v hj hv => hok (j + 1) t v (by simpa using hj) (by simpa using hv)) (fun x hx => hw x (.inr hx))
   have hv : VL G (Sc (Iw dd) pv) v := by
    have hlen := Hd c2
    obtain ⟨base, hk⟩ : ∃ base, Value.okWide P W .any base t v := by
     rcases hok 0 t v rfl rfl with h | h
     ·exact ⟨0, h⟩
     ·exact h
    unfold Sc
    split
    ·rename_i ha
     have : ∃ arr, v = .agg arr := by
      unfold Value.okWide at hk
      rw [hd] at hk
      cases dd <;> simp [Iw] at ha
      all_goals exact ⟨_, hk.choose_spec.1⟩
     obtain ⟨arr, rfl⟩ := this
     simp only [Value.cells] at c1 c3
     refine .agg arr (by simpa using c1) (fun i u hu => ?_) (fun i x hx => ?_)
     ·have hlt : i < pv.length := by rw [← c1]; simpa using (Array.getElem?_eq_some_iff.1 hu).1
      obtain ⟨u', hu', hvp⟩ := c3 i pv[i] (by simp [hlt])
      rw [Array.getElem?_toList, hu] at hu'
      cases hu'
      exact hvp.one
     ·rw [List.getElem?_map] at hx
      cases hq : pv[i]? with
      | none => simp [hq] at hx
      | some y =>
       simp [hq] at hx; subst hx
       obtain ⟨u', hu', hvp⟩ := c3 i y hq
       rw [Array.getElem?_toList] at hu'
       rw [Array.getD_eq_getD_getElem?, hu']
       rw [← hG] at hvp
       exact .p hvp
    ·rename_i ha
     have h1 := tyT_one hd (by simpa using ha) htt
     have hna : ∀ arr, v ≠ .agg arr := by
      rintro arr rfl
      unfold Value.okWide at hk
      rw [hd] at hk
      cases dd <;> simp [Iw] at ha <;> simp [Cell.okWide, Cell.ok, hd] at hk
     obtain ⟨y, rfl⟩ := List.length_eq_one_iff.1 (hlen.trans h1)
     ·obtain ⟨u', hu', hvp⟩ := c3 0 y rfl
      have : v.cells = #[v] := by cases v <;> first | rfl | exact absurd rfl (hna _)
      rw [this] at hu'
      simp at hu'
      subst hu'
      rw [← hG] at hvp
      exact .p hvp
   obtain ⟨dd2, tt2, ll2, q1, q2, q3, q4⟩ := hk (max fuel k')
   have hdd : dd2 = dd := by rw [hd] at q1; exact (Option.some.inj q1).symm
   subst hdd
   obtain ⟨us2, g1, g2⟩ := Gn (RecOk.le (P := P) (cut := cut) (N := N) (Nat.le_max_left fuel k')) htt
   rw [q2] at g1
   cases g1
   have a1' := Pj (RecOk.le (P := P) (cut := cut) (N := N) (Nat.le_max_right fuel k')) (hl' k') q3 _ a1
   refine ⟨max fuel k', Sc (Iw dd2) pv :: args, by rw [q4]; exact ⟨pv, args, rfl, g2.2 _ c2, a1'⟩, by simp [a2], fun i x u hx hu => ?_⟩
   cases i with
   | zero => simp at hx hu; subst hx; subst hu; exact hv
   | succ i => exact a3 i x u (by simpa using hx) (by simpa using hu)
end
end Go.LS
namespace Go.LS
def gh0 (w : World) : Gh := ⟨Ek w, fun _ => none, fun _ _ => none⟩
theorem wr0 (w : World) : WR (gh0 w) [] w where
 fr _ _ _ h := h
 dom _ _ := ⟨rfl, fun _ => rfl⟩
 row o es h := by simp at h
 map o es h := by simp at h
 iter o s p h := by simp at h
 spare o n hw h := by simp at h
 uniq o o' b h := by simp [Owns] at h
 ownF o b h := by simp [Owns] at h
 kind o x h := by simp at h
theorem Ext0.below {G G' : Gh} {st' : List LObj} {w w' : World} (h : Ext0 G [] w G' st' w') : RowKit.Below w.heap.size w w' :=
 ⟨h.os, h.tape, h.output, h.hsz, fun k hk => h.unch k hk (fun o ho => by simp [Owns] at ho)⟩
theorem I2 {H : Type} {enc : TypeId × Value → H} {P : Program} (hl : laidOutB P = true) {W W' : World} (hb : RowKit.Below W.heap.size W W') :
  ∀ {ts : List TypeId} {vs : List Value} {ds : List (DataW H)} {ps : List MemPlace}, (∀ t ∈ ts, P.readableRec t = true ∧ t < P.types.size) → DataW.TrodAll enc P W 0 (fun _ => true) true ts vs ds ps →
   DataW.TrodAll enc P W' 0 (fun b => decide (b < W.heap.size)) true ts vs ds ps
 | [], vs, ds, ps, _, h => by
  obtain ⟨rfl, rfl, rfl⟩ := ChangeShapes.trodAll_nil h
  rfl
 | t :: ts, vs, ds, ps, ht, h => by
  obtain ⟨v, vs', d, ds', p, q, rfl, rfl, rfl, h1, h2⟩ := ChangeShapes.trodAll_cons h
  refine ⟨p, q, ?_, I2 hl hb (fun t hm => ht t (by simp [hm])) h2, rfl⟩
  exact RowKit.Below.trod hl (ht t (by simp)).1 (ht t (by simp)).2 h1 hb (fun x hx => by
   obtain ⟨m, hm⟩ := h1
   exact DataW.trod_lt m _ _ _ hm x hx)
theorem Md {H : Type} {enc : TypeId × Value → H} {P : Program} {W : World} : ∀ {ts : List TypeId} {vs : List Value} {ds : List (DataW H)} {ps : List MemPlace}, DataW.TrodAll enc P W 0 (fun _ => true) true ts vs ds ps → ds.length = vs.length
 | [], vs, ds, ps, h => by
  obtain ⟨rfl, rfl, _⟩ := ChangeShapes.trodAll_nil h
  rfl
 | t :: ts, vs, ds, ps, h => by
  obtain ⟨v, vs', d, ds', p, q, rfl, rfl, rfl, _, h2⟩ := ChangeShapes.trodAll_cons h
  simp [Md h2]
theorem Qg {H : Type} {enc : TypeId × Value → H} {P : Program} {lp : Bs} (hp : PR P lp) (hl : laidOutB P = true) {f : FuncId} {fn : Func} {s : ChangeSpec} {tb : TypeId} {cut : List TypeId} {N n : Nat} {tys : Nat → List (Bool × List Cty)}
  (hcut : ∀ e ∈ cut, ∀ Q, ∃ ts, tyT P cut Q N e = some ts ∧ ts.length = P.cellsOf e ∧ 0 < ts.length)
  (hps : fn.params.toList.all (fun t => P.readableRec t && decide (t < P.types.size)) = true) (hres : fn.resultTypes = #[tb]) (htb : P.underlying tb = some .bool)
  (ht : ∀ k, Kl P cut (RecOk P cut N k) n fn.params.toList = some (tys k)) (hv : s.vars = []) (hsz : ∀ k, ∀ vs : List LV, OkArgs (tys k) vs → vs.length = fn.params.size)
  (hs : ∀ ds : List (DataW H), ds.length = fn.params.size → s.fn H ds = { results := [.lit (.bool true)], args := ds, vars := [] })
  (W : World) (base : Nat) (args : Array Value) (ds gs : List (DataW H)) (before : List MemPlace)
  (hrun : ∀ j vs, OkArgs (tys j) vs → ∃ k st', Dr lp k f vs [] = some (.p (.bool true), st'))
  (hval : ∀ (j : Nat) t v, fn.params[j]? = some t → args[j]? = some v → Value.okWide P W .any base t v)
  (hW : DataW.Whole enc P fn.params.toList s.vars false W args.toList ds gs before)
  (hw : (DataW.weightsEach P (fn.params.toList ++ s.plain.varTypes P) (ds ++ gs)).all (· ≤ reachBytes) = true) :
  Calls P f args W fun e W' => ∃ v, e = .returned v ∧ s.post enc P fn false true false false W args v W' := by
 have hW' := hW
 obtain ⟨p, q, hA, hV, rfl, hfz, _⟩ := hW
 rw [hv] at hV
 obtain ⟨rfl, rfl⟩ := ChangeShapes.trodVars_none hV
 have hwx : ∀ x ∈ DataW.weightsEach P (fn.params.toList ++ s.plain.varTypes P) (ds ++ []), x ≤ reachBytes := fun x hx => by simpa using List.all_eq_true.1 hw x hx
 obtain ⟨j0, vs, a1, a2, a3⟩ := Wu (G := gh0 W) hcut rfl hA ht (fun j t v hj hv' => .inr ⟨base, hval j t v (by simpa using hj) (by simpa using hv')⟩) hwx
 obtain ⟨k, st', hr⟩ := hrun j0 vs a1
 obtain ⟨_, hcall⟩ := Ui hp k f vs [] _ _ hr
 refine (hcall (gh0 W) W args (wr0 W) ⟨by simpa using a2.symm, fun i x hx => ?_⟩).mono ?_
 ·have hlt : i < args.size := by have := (List.getElem?_eq_some_iff.1 hx).1; rw [a2] at this; simpa using this
  have := a3 i x args[i] hx (by simp [hlt])
  rw [Array.getD_eq_getD_getElem?, Array.getElem?_eq_getElem hlt]
  exact this
 ·rintro e W' ⟨u, G', rfl, _, hu, hx⟩
  have hub := hu.bool_inv
  subst hub
  have bel := hx.below
  have hdl : ds.length = fn.params.size := by
   rw [← hsz j0 vs a1, a2]
   exact Md hA
  refine ⟨_, rfl, ds, [], _, [], p, [], hW', ?_, ?_, ?_, bel.frame _, fun h => by cases h⟩
  ·rw [List.append_nil, hs ds hdl, hres]
   exact ChangeShapes.trodAll_mk1 ⟨1, by simp [DataW.trod, htb, Value.cells]⟩
  ·rw [List.append_nil, hs ds hdl]
   refine I2 hl bel (fun t hm => ?_) hA
   have := List.all_eq_true.1 hps t hm
   simpa using this
  ·rw [List.append_nil, hs ds hdl, hv]
   rfl
end Go.LS
namespace Go.LS
theorem OkArgs.length : ∀ {tys : List (Bool × List Cty)} {vs : List LV}, OkArgs tys vs → vs.length = tys.length
 | [], vs, h => by cases h; rfl
 | (a, t) :: r, vs, h => by
  obtain ⟨ps, m, rfl, _, h2⟩ := h
  simp [h2.length]
end Go.LS
set_option linter.unusedVariables false
set_option linter.unusedSimpArgs false
namespace Go.LS
theorem Fy {size bytes : Nat} {E X : List (List PV)} {st : List LObj} {x : LV} (hx : Ez false st x = some X) (hE : Hf size E = true) (hX : Hf size X = true) (hne : X ≠ [])
  (hb : (E.length + X.length) * bytes ≤ 140737488355328) (hm : E.length + X.length ≤ 9223372036854775807) (h0 : 0 < size) :
  Ao A0 [] st (.append false size bytes (.const (.tight E)) (.const x)) = some (.sl (E ++ X) st.length (E ++ X).length, st ++ [.spare size (E ++ X).length]) := by
 have : X.isEmpty = false := by cases X <;> simp_all
 refine M8 ?_
 simp [LX.ev, F2, hx, hX, hE, this, M7 hb, maxLen, hm, h0]
theorem Jf {size bytes tg : Nat} {E X : List (List PV)} {st : List LObj} {x : LV} (hs : st[tg]? = some (.spare size E.length)) (hx : Ez false st x = some X) (hX : Hf size X = true)
  (hb : (E.length + X.length) * bytes ≤ 140737488355328) (hm : E.length + X.length ≤ 9223372036854775807) (h0 : 0 < size) :
  Ao A0 [] st (.append false size bytes (.const (.sl E tg E.length)) (.const x)) = some (.sl (E ++ X) tg (E ++ X).length, st.set tg (.spare size (E ++ X).length)) := by
 by_cases hM : X = []
 ·subst hM
  refine M8 ?_
  simp [LX.ev, F2, hx, hX, hs]
  obtain ⟨h1, h2⟩ := List.getElem?_eq_some_iff.1 hs
  conv => rhs; rw [← h2]
  simp
 ·have : X.isEmpty = false := by cases X <;> simp_all
  refine M8 ?_
  simp [LX.ev, F2, hx, hX, hs, this, M7 hb, maxLen, hm, h0, hM]
theorem Um {neg : Bool} {L : List UInt8} {st : List LObj} (h : L ≠ []) :
  Ao A0 [] st (.nileq neg .slice (.const (.p (.sl (bs L))))) = some (.p (.bool neg), st) := by
 cases L with
 | nil => exact (h rfl).elim
 | cons c r => simp [Ao, LX.ev, LV.nilq, bs]
theorem Jg {M : List UInt8} {i : Nat} {st : List LObj} (h : i < M.length) :
  Ao A0 [] st (.index (.const (.p (.str M))) (.const (.p (.int .i64 ((i : Nat) : Int))))) = some (.p (.int .u8 ((M.getD i 0).toNat : Int)), st) := by
 simp [Ao, LX.ev, LV.asInt, h]
end Go.LS
namespace Go.LS
theorem Ww {agg : Bool} {ts : List Cty} {r : List (Bool × List Cty)} {l : List LV} (h : OkArgs ((agg, ts) :: r) l) : ∃ ps m, l = Sc agg ps :: m ∧ B6 ts ps ∧ OkArgs r m := h
theorem okEnd {l : List LV} (h : OkArgs [] l) : l = [] := h
theorem okSl {u : List Cty} {b : Nat} {ts : List Cty} {ps : List PV} (h : B6 (.sl u b :: ts) ps) : ∃ n r, ps = .sl n :: r ∧ (n.length * b ≤ reachBytes ∧ n.length ≤ maxLen ∧ ∀ e ∈ n, B6 u e) ∧ B6 ts r := by
 obtain ⟨_, r, rfl, ⟨n, rfl, h1⟩, h2⟩ := h
 exact ⟨n, r, rfl, h1, h2⟩
theorem okNil {ps : List PV} (h : B6 [] ps) : ps = [] := h
end Go.LS
set_option linter.unusedVariables false
namespace Go.LS
def Gp {α σ ρ : Type} (f : σ → α → ρ ⊕ σ) (e : σ → ρ) : σ → List α → ρ
 | s, [] => e s
 | s, x :: r => match f s x with
  | .inl y => y
  | .inr s' => Gp f e s' r
theorem Km {α : Type} {xs : List α} {i : Nat} {x : α} (h : xs[i]? = some x) : xs.drop i = x :: xs.drop (i + 1) := by
 obtain ⟨hi, rfl⟩ := List.getElem?_eq_some_iff.1 h
 exact List.drop_eq_getElem_cons hi
theorem Ip {α σ : Type} {lp : Bs} {k : Nat} {L : List Bool × B0} (T : Nat → σ → List LV) (S : Nat → σ → List LObj) (xs : List α) (f : σ → α → (Dj × List LV × List LObj) ⊕ σ) (e : σ → Dj × List LV × List LObj) (Inv : Nat → σ → Prop)
  (hs : ∀ i s x, xs[i]? = some x → Inv i s → (∀ r, f s x = .inl r → LoopN lp k L (T i s) (S i s) r) ∧ ∀ s', f s x = .inr s' → Inv (i + 1) s' ∧ ∀ r, LoopN lp k L (T (i + 1) s') (S (i + 1) s') r → LoopN lp k L (T i s) (S i s) r)
  (he : ∀ s, Inv xs.length s → LoopN lp k L (T xs.length s) (S xs.length s) (e s)) (s0 : σ) (h0 : Inv 0 s0) : LoopN lp k L (T 0 s0) (S 0 s0) (Gp f e s0 xs) := by
 have key : ∀ n i s, n + i = xs.length → Inv i s → LoopN lp k L (T i s) (S i s) (Gp f e s (xs.drop i)) := by
  intro n
  induction n with
  | zero =>
   intro i s h hi
   obtain rfl : i = xs.length := by omega
   rw [List.drop_length]
   exact he s hi
  | succ n ih =>
   intro i s h hi
   have hx : xs[i]? = some (xs[i]'(by omega)) := List.getElem?_eq_getElem (by omega)
   rw [Km hx]
   obtain ⟨h1, h2⟩ := hs i s _ hx hi
   simp only [Gp]
   cases hf : f s (xs[i]'(by omega)) with
   | inl r => exact h1 r hf
   | inr s' =>
    obtain ⟨h3, h4⟩ := h2 s' hf
    exact h4 _ (ih (i + 1) s' (by omega) h3)
 have := key xs.length 0 s0 (by omega) h0
 rwa [List.drop_zero] at this
theorem Gq {α : Type} {lp : Bs} {k : Nat} {L : List Bool × B0} (T : Nat → List LV) (S : List LObj) (xs : List α) (p : α → Bool) {rF rT : Dj × List LV × List LObj}
  (hF : ∀ i x, xs[i]? = some x → p x = false → LoopN lp k L (T i) S rF) (hS : ∀ i x r, xs[i]? = some x → p x = true → LoopN lp k L (T (i + 1)) S r → LoopN lp k L (T i) S r)
  (hE : LoopN lp k L (T xs.length) S rT) : LoopN lp k L (T 0) S (if xs.all p = true then rT else rF) := by
 have := Ip (σ := Unit) (fun i _ => T i) (fun _ _ => S) xs (fun _ x => if p x = true then .inr () else .inl rF) (fun _ => rT) (fun _ _ => True)
  (fun i s x hx _ => by
    cases hp : p x with
    | true => simp only [if_true]; exact ⟨fun r h => (by cases h), fun s' _ => ⟨trivial, fun r hr => hS i x r hx hp hr⟩⟩
    | false => simp only [Bool.false_eq_true, if_false]; exact ⟨fun r h => (by cases h; exact hF i x hx hp), fun s' h => (by cases h)⟩)
  (fun _ _ => hE) () trivial
 have e : ∀ l : List α, Gp (fun (_ : Unit) x => if p x = true then (.inr () : (Dj × List LV × List LObj) ⊕ Unit) else .inl rF) (fun _ => rT) () l = if l.all p = true then rT else rF := by
  intro l
  induction l with
  | nil => rfl
  | cons x r ih =>
   have e1 : (x :: r).all p = (p x && r.all p) := rfl
   simp only [Gp, e1]
   by_cases hp : p x = true
   ·simp only [hp, if_true, Bool.true_and]; exact ih
   ·simp only [hp, Bool.false_and, Bool.false_eq_true, if_false]
 rw [e] at this
 exact this
theorem D2 {α σ : Type} {lp : Bs} {k : Nat} {L : List Bool × B0} (T : Nat → σ → List LV) (S : Nat → σ → List LObj) (xs : List α) (f : σ → α → σ) (e : σ → Dj × List LV × List LObj) (Inv : Nat → σ → Prop)
  (hS : ∀ i s x r, xs[i]? = some x → Inv i s → Inv (i + 1) (f s x) ∧ (LoopN lp k L (T (i + 1) (f s x)) (S (i + 1) (f s x)) r → LoopN lp k L (T i s) (S i s) r))
  (hE : ∀ s, Inv xs.length s → LoopN lp k L (T xs.length s) (S xs.length s) (e s)) (s0 : σ) (h0 : Inv 0 s0) : LoopN lp k L (T 0 s0) (S 0 s0) (e (xs.foldl f s0)) := by
 have := Ip T S xs (fun s x => .inr (f s x)) e Inv (fun i s x hx hi => ⟨fun r h => (by cases h), fun s' h => (by cases h; exact ⟨(hS i s x (e s) hx hi).1, fun r hr => (hS i s x r hx hi).2 hr⟩)⟩) hE s0 h0
 have e2 : ∀ (l : List α) s, Gp (fun s x => (.inr (f s x) : (Dj × List LV × List LObj) ⊕ σ)) e s l = e (l.foldl f s) := by
  intro l
  induction l with
  | nil => intro s; rfl
  | cons x r ih => intro s; simp only [Gp, List.foldl_cons]; exact ih _
 rw [e2] at this
 exact this
theorem LoopAt.onG {lp : Bs} {N k : Nat} {mask : List Bool} {c : B0} {t t1 t2 t3 : List LV} {st st1 st3 : List LObj} {os os' : Os} {ps : List Prop} {r : Dj × List LV × List LObj}
  (h : C7 lp k N c t st os = some (.normal, t1, st1, ps, os')) (hk : kill mask t1 = t2) (hg : gc k t2 st1 = some (t3, st3)) (hp : Conj ps) (hr : LoopAt lp k mask c t3 st3 r) : LoopAt lp k mask c t st r := by
 refine LoopAt.on (N := N) (os := os) (ps := ps) (t' := t3) (st' := st3) ?_ hp hr
 unfold Li
 rw [h]
 simp only [hk, hg]
theorem nx {i : Nat} (h : i ≤ 1000000000000000) : IntKind.wrap .i64 ((i : Int) + 1) = ((i + 1 : Nat) : Int) := by
 rw [A9 (by omega) (by omega)]; rfl
theorem H9 (a b : Int) : IntKind.wrap .i64 (IntKind.wrap .i64 a + b) = IntKind.wrap .i64 (a + b) := by
 simp only [IntKind.wrap, IntKind.bits, IntKind.signed]
 simp
 omega
theorem Gr (a b : Int) : IntKind.wrap .i64 (a + IntKind.wrap .i64 b) = IntKind.wrap .i64 (a + b) := by
 rw [Int.add_comm, H9, Int.add_comm]
end Go.LS
set_option linter.unusedVariables false
set_option linter.unusedSimpArgs false
namespace Go.LS
inductive Val where
 | mk (kind int : Int) (text : List UInt8) (items : List Val) (names : List (List UInt8))
 deriving Inhabited
def Ak (ns : List (List UInt8)) : List (List PV) := ns.map fun x => [.str x]
mutual
def rowV : Val → List PV
 | .mk k n s is ns => [.int .i64 k, .int .i64 n, .str s, .sl (Ad is), .sl (Ak ns)]
def Ad : List Val → List (List PV)
 | [] => []
 | v :: r => rowV v :: Ad r
end
abbrev Es : Val → LV
 | .mk k n s is ns => .agg [.p (.int .i64 k), .p (.int .i64 n), .p (.str s), .p (.sl (Ad is)), .p (.sl (Ak ns))]
theorem Iq : ∀ (l : List Val), Ad l = l.map rowV
 | [] => rfl
 | v :: r => by rw [Ad, Iq r]; rfl
theorem A6 (l : List Val) : (Ad l).length = l.length := by rw [Iq, List.length_map]
theorem Bl (l : List (List UInt8)) : (Ak l).length = l.length := by simp [Ak]
theorem Ca {l : List Val} {i : Nat} {v : Val} (h : l[i]? = some v) : (Ad l)[i]? = some (rowV v) := by rw [Iq, List.getElem?_map, h]; rfl
theorem Cn {l : List (List UInt8)} {i : Nat} (h : i < l.length) : (Ak l)[i]? = some [.str (l.getD i [])] := by
 simp [Ak, h]
theorem Val.ind {P : Val → Prop} (h : ∀ k n s is ns, (∀ v ∈ is, P v) → P (.mk k n s is ns)) : ∀ v, P v
 | .mk k n s is ns => h k n s is ns fun v hv => Val.ind h v
def B3 (s : List UInt8) : Bool := !(s.contains 46) && decide (1 ≤ s.length) && decide (s.length ≤ 32) && !(s.headD 0 == 36)
def Cl : List (List UInt8) → Bool
 | [] => false
 | x :: r => r.contains x || Cl r
def Ec (k n : Int) (s : List UInt8) (l : Nat) (ns : List (List UInt8)) : Bool :=
 if k == 1 then n == 0 && s == [] && decide (l = 0) && decide (ns.length = 0)
 else if k == 2 then (decide (0 ≤ n) && decide (n ≤ 1)) && s == [] && decide (l = 0) && decide (ns.length = 0)
 else if k == 3 then s == [] && decide (l = 0) && decide (ns.length = 0)
 else if k == 4 || k == 5 then n == 0 && decide (l = 0) && decide (ns.length = 0)
 else if k == 6 then n == 0 && s == [] && decide (ns.length = 0)
 else if k == 7 then n == 0 && s == [] && decide (ns.length = l) && !Cl ns
 else false
def Ci (ns : List (List UInt8)) : Bool := ns.all B3 && !Cl ns
mutual
def Ce : Val → Bool
 | .mk k n s is ns => B7 is && ns.all B3 && Ec k n s is.length ns
def B7 : List Val → Bool
 | [] => true
 | v :: r => Ce v && B7 r
end
mutual
def Bg : Val → Int
 | .mk _ _ _ is _ => Cc is + 1
def Cc : List Val → Int
 | [] => 0
 | v :: r => max (Bg v) (Cc r)
end
theorem N7 : ∀ (l : List Val), B7 l = l.all Ce
 | [] => rfl
 | v :: r => by rw [B7, N7 r]; rfl
def zzN (x : Int) : Nat := if 0 ≤ x then (2 * x).toNat else (-(2 * x) - 1).toNat
def C8 (n : Nat) : Int := ((Ab n).length : Int)
def Cs (s : List UInt8) : Int := ((Ab s.length).length : Int) + s.length
mutual
def Ck : Val → Int
 | .mk k n s is ns => if k == 2 then 2 else if k == 3 then 1 + ((Ab (zzN n)).length : Int) else if k == 4 || k == 5 then 1 + Cs s
  else if k == 6 then 1 + C8 is.length + Co is else if k == 7 then 1 + C8 is.length + Co is + (ns.map Cs).sum else 1
def Co : List Val → Int
 | [] => 0
 | v :: r => Ck v + Co r
end
def B8 (v : Val) : Int := IntKind.wrap .i64 (Ck v)
mutual
def Df : Int → Val → Int
 | d, .mk _ _ _ is ns => if d > 40 then 1048576 else Dt (IntKind.wrap .i64 (d + 1)) (IntKind.wrap .i64 (1 + (ns.length : Int))) is
def Dt : Int → Int → List Val → Int
 | _, m, [] => m
 | d, m, v :: r => if m < 65536 then Dt d (IntKind.wrap .i64 (m + Df d v)) r else m
end
def Bc (v : Val) : Bool := decide (Df 0 v > 3000)
mutual
def Cz : Val → Val → Bool
 | .mk k n s is ns, .mk k' n' s' is' ns' => (k == k') && (n == n') && (s == s') && Ep is is' && (ns == ns')
def Ep : List Val → List Val → Bool
 | [], [] => true
 | v :: r, v' :: r' => Cz v v' && Ep r r'
 | _, _ => false
end
def ordI (a b : Int) : Int := if a < b then -1 else if a > b then 1 else 0
def ordS (a b : List UInt8) : Int := if Op.bytesLess a b = true then -1 else if (!(Op.bytesLess a b || a == b)) = true then 1 else 0
mutual
def cmpV : Val → Val → Int
 | .mk k n s is ns, .mk k' n' s' is' ns' => if ordI k k' ≠ 0 then ordI k k' else if ordI n n' ≠ 0 then ordI n n' else if ordS s s' ≠ 0 then ordS s s' else
  match cmpL (k == 7) is is' ns ns' with
  | some c => c
  | none => ordI is.length is'.length
def cmpL : Bool → List Val → List Val → List (List UInt8) → List (List UInt8) → Option Int
 | d, v :: r, w :: q, ns, ms => if d = true ∧ ordS (ns.headD []) (ms.headD []) ≠ 0 then some (ordS (ns.headD []) (ms.headD [])) else
  if cmpV v w ≠ 0 then some (cmpV v w) else cmpL d r q ns.tail ms.tail
 | _, _, _, _, _ => none
end
def Bp (v : Val) : Int := if Ce v = true then (if Bg v > 8 then 21 else if B8 v > 4096 then 22 else 0) else 20
mutual
def okV : Val → Prop
 | .mk k n s is ns => (-9223372036854775808 ≤ k ∧ k ≤ 9223372036854775807) ∧ (-9223372036854775808 ≤ n ∧ n ≤ 9223372036854775807) ∧ s.length ≤ 140737488351232 ∧ is.length * 80 ≤ 140737488355328 ∧ ns.length * 16 ≤ 140737488355328 ∧ (∀ x ∈ ns, x.length ≤ 140737488351232) ∧ okL is
def okL : List Val → Prop
 | [] => True
 | v :: r => okV v ∧ okL r
end
theorem M5 : ∀ {l : List Val}, okL l ↔ ∀ v ∈ l, okV v
 | [] => by simp [okL]
 | v :: r => by rw [okL, M5 (l := r)]; simp
theorem Wx : ∀ {es : List (List PV)}, (∀ e ∈ es, B6 [.str] e) → ∃ ns : List (List UInt8), es = Ak ns ∧ ∀ x ∈ ns, x.length ≤ 140737488351232
 | [], _ => ⟨[], rfl, by simp⟩
 | e :: r, h => by
  obtain ⟨ns, rfl, hn⟩ := Wx (es := r) (fun x hx => h x (List.mem_cons_of_mem _ hx))
  obtain ⟨_, _, rfl, ⟨s, rfl, hs⟩, rfl⟩ := h e (List.mem_cons_self ..)
  refine ⟨s :: ns, rfl, fun x hx => ?_⟩
  rcases List.mem_cons.1 hx with rfl | hx
  ·simp [reachBytes] at hs; omega
  ·exact hn x hx
theorem okVal1 {Q : List PV → Prop} (hQ : ∀ {es : List (List PV)}, (∀ e ∈ es, Q e) → ∃ l : List Val, es = Ad l ∧ okL l) {e : List PV}
  (h : B6 [.int .i64, .int .i64, .str, .pr Q 80, .sl [.str] 16] e) : ∃ v : Val, e = rowV v ∧ okV v := by
 obtain ⟨_, _, rfl, ⟨a, rfl, a0, a1⟩, _, _, rfl, ⟨b, rfl, b0, b1⟩, _, _, rfl, ⟨s, rfl, hs⟩, _, _, rfl, ⟨es, rfl, e1, -, e3⟩, _, _, rfl, ⟨ns, rfl, n1, -, n3⟩, rfl⟩ := h
 obtain ⟨l, rfl, hl⟩ := hQ e3
 obtain ⟨m, rfl, hm⟩ := Wx n3
 refine ⟨.mk a b s l m, rfl, ⟨⟨a0, a1⟩, ⟨b0, b1⟩, ?_, ?_, ?_, hm, hl⟩⟩
 ·simp [reachBytes] at hs; omega
 ·rw [A6] at e1; simp [reachBytes] at e1; omega
 ·rw [Bl] at n1; simp [reachBytes] at n1; omega
theorem okVals {P : Program} {cut : List TypeId} {N : Nat} {T : TypeId} (hT : ∀ Q, tyT P cut Q N T = some [.int .i64, .int .i64, .str, .pr (Q T) 80, .sl [.str] 16]) :
  ∀ (k : Nat) {es : List (List PV)}, (∀ e ∈ es, RecOk P cut N k T e) → ∃ l : List Val, es = Ad l ∧ okL l := by
 intro k
 induction k with
 | zero =>
  intro es h
  cases es with
  | nil => exact ⟨[], rfl, trivial⟩
  | cons e r => exact (h e (List.mem_cons_self ..)).elim
 | succ k ih =>
  intro es
  induction es with
  | nil => exact fun _ => ⟨[], rfl, trivial⟩
  | cons e r ihr =>
   intro h
   obtain ⟨l, rfl, hl⟩ := ihr fun x hx => h x (List.mem_cons_of_mem _ hx)
   obtain ⟨ts, h1, h2⟩ := h e (List.mem_cons_self ..)
   rw [hT] at h1
   cases h1
   obtain ⟨v, rfl, hv⟩ := okVal1 (fun h => ih h) h2
   exact ⟨v :: l, rfl, hv, hl⟩
theorem Qh (a b : List Val) : Ad (a ++ b) = Ad a ++ Ad b := by simp [Iq]
theorem Se (l : List (List UInt8)) : Hf 1 (Ak l) = true := by
 simp only [Hf, List.all_eq_true, Ak, List.mem_map]
 rintro _ ⟨v, _, rfl⟩
 rfl
theorem Jh {tg : Nat} {es : List Val} {k n : Int} {s : List UInt8} {is : List Val} {ns : List (List UInt8)} {st : List LObj} (hs : st[tg]? = some (.spare 5 (List.length (Ad es)))) (hb : (es.length + 1) * 80 ≤ 140737488355328) :
  Ao A0 [] st (.append false 5 80 (.const (.sl (Ad es) tg (List.length (Ad es)))) (.const (.tight [[.int .i64 k, .int .i64 n, .str s, .sl (Ad is), .sl (Ak ns)]]))) =
   some (.sl (Ad (es ++ [.mk k n s is ns])) tg (List.length (Ad (es ++ [.mk k n s is ns]))), st.set tg (.spare 5 (List.length (Ad (es ++ [.mk k n s is ns]))))) := by
 have := Jf (size := 5) (bytes := 80) (tg := tg) (E := Ad es) (X := [[.int .i64 k, .int .i64 n, .str s, .sl (Ad is), .sl (Ak ns)]]) (st := st) (x := .tight [[.int .i64 k, .int .i64 n, .str s, .sl (Ad is), .sl (Ak ns)]]) hs rfl rfl
  (by rw [A6]; exact hb) (by rw [A6]; simp; omega) (by decide)
 rw [this, Qh]
 rfl
theorem Ji {k n : Int} {s : List UInt8} {is : List Val} {ns : List (List UInt8)} {st : List LObj} :
  Ao A0 [] st (.append false 5 80 (.const (.tight [])) (.const (.tight [[.int .i64 k, .int .i64 n, .str s, .sl (Ad is), .sl (Ak ns)]]))) =
   some (.sl (Ad [.mk k n s is ns]) st.length (List.length (Ad [.mk k n s is ns])), st ++ [.spare 5 (List.length (Ad [.mk k n s is ns]))]) := by
 exact Fy (size := 5) (bytes := 80) (E := []) (X := [[.int .i64 k, .int .i64 n, .str s, .sl (Ad is), .sl (Ak ns)]]) (st := st) (x := .tight [[.int .i64 k, .int .i64 n, .str s, .sl (Ad is), .sl (Ak ns)]]) rfl rfl rfl (by simp) (by simp) (by simp) (by decide)
def Cm (ms : List (List UInt8)) : List (PV × LV) := ms.map fun x => (.str x, .p (.bool true))
theorem N8 (x : List UInt8) : ∀ (ms : List (List UInt8)), Hp (.str x) (Cm ms) = some (if ms.contains x then some (.p (.bool true)) else none)
 | [] => rfl
 | y :: r => by
  have ih := N8 x r
  rw [Cm] at ih
  simp only [Cm, List.map_cons, Hp, Kx]
  by_cases h : x = y
  ·subst h; simp
  ·have h2 : (x == y) = false := by simpa using h
   rw [h2]
   simp only [ih, List.contains_cons, h2, Bool.false_or]
theorem Pk (x : List UInt8) : ∀ (ms : List (List UInt8)), ms.contains x = false → Ot (.str x) (.p (.bool true)) (Cm ms) = some (Cm (ms ++ [x]))
 | [], _ => rfl
 | y :: r, h => by
  rw [List.contains_cons, Bool.or_eq_false_iff] at h
  have ih := Pk x r h.2
  rw [Cm] at ih
  simp only [Cm, List.map_cons, Ot, Kx, h.1, ih, List.cons_append]
theorem N9 (ms : List (List UInt8)) : (LObj.map (Cm ms)).refs = [] := by
 simp only [LObj.refs, Cm, List.flatMap_map]
 induction ms with
 | nil => rfl
 | cons x r ih => simp [LV.refs]
theorem X7 (r : Nat → Nat) (ms : List (List UInt8)) : LObj.ren r (.map (Cm ms)) = .map (Cm ms) := by
 simp [LObj.ren, Cm, LV.ren]
theorem gc_seen {ms : List (List UInt8)} {vs : List LV} (h1 : vs.flatMap LV.refs = [0]) (h2 : vs.map (LV.ren fun q => [0].idxOf q) = vs) : gc 0 vs [.map (Cm ms)] = some (vs, [.map (Cm ms)]) := by
 have hr : Js 0 [.map (Cm ms)] (vs.flatMap LV.refs) = [0] := by
  rw [h1]
  unfold Js
  rw [show (100000 : Nat) = 99998 + 1 + 1 from rfl]
  simp [Eo, N9]
 unfold gc
 simp only [hr]
 rw [h1, h2]
 simp [Eb, N9, sub, X7]
theorem Pl {st : List LObj} {ms : List (List UInt8)} {x : List UInt8} {o : Nat} (h : st[o]? = some (.map (Cm ms))) :
  Ao A0 [] st (.lookup .str (.p (.bool false)) false (.const (.mp o)) (.const (.p (.str x)))) = some (.p (.bool (ms.contains x)), st) := by
 simp only [Ao, LX.ev, LV.toPV, KK.fits, Wd, h, N8]
 cases ms.contains x <;> rfl
theorem opIs_see {st : List LObj} {ms : List (List UInt8)} {x : List UInt8} {o : Nat} (h : st[o]? = some (.map (Cm ms))) (hx : ms.contains x = false) :
  Ao A0 [] st (.mapUpdate .str (.const (.mp o)) (.const (.p (.str x))) (.const (.p (.bool true)))) = some (.tup [], st.set o (.map (Cm (ms ++ [x])))) := by
 simp only [Ao, LX.ev, LV.toPV, KK.fits, h, Pk x ms hx]
 rfl
end Go.LS
set_option linter.unusedVariables false
namespace Go.LS
def u8 (x : Int) : UInt8 := UInt8.ofNat (Int.toNat (IntKind.wrap .u8 x))
mutual
def Bu : Val → List UInt8
 | .mk k n s is ns => u8 k :: (if k == 1 then [] else if k == 2 then [u8 n] else if k == 3 then Ab (zzN n) else if k == 4 || k == 5 then Ab s.length ++ s
  else Ab is.length ++ Dp (k == 7) is ns)
def Dp : Bool → List Val → List (List UInt8) → List UInt8
 | _, [], _ => []
 | d, v :: r, ns => (if d then Ab (ns.headD []).length ++ ns.headD [] else []) ++ Bu v ++ Dp d r ns.tail
end
theorem U3 (ns : List (List UInt8)) : ∀ (is : List Val) (L : List UInt8), is.foldl (fun b x => b ++ Bu x) L = L ++ Dp false is ns := by
 intro is
 induction is generalizing ns with
 | nil => intro L; simp [Dp]
 | cons v r ih => intro L; rw [List.foldl_cons, ih ns.tail]; simp [Dp]
theorem U4 : ∀ (is : List Val) (ns : List (List UInt8)) (L : List UInt8), ns.length = is.length →
  (is.zip ns).foldl (fun b x => b ++ (Ab x.2.length ++ x.2) ++ Bu x.1) L = L ++ Dp true is ns := by
 intro is
 induction is with
 | nil => intro ns L h; simp [Dp]
 | cons v r ih =>
  intro ns L h
  cases ns with
  | nil => simp at h
  | cons x q =>
   rw [List.zip_cons_cons, List.foldl_cons, ih q _ (by simpa using h)]
   simp [Dp]
theorem Yp : ∀ (is : List Val) (ns : List (List UInt8)), (∀ v ∈ is, ((Bu v).length : Int) = Ck v) → ((Dp false is ns).length : Int) = Co is := by
 intro is
 induction is with
 | nil => intro ns h; simp [Dp, Co]
 | cons v r ih =>
  intro ns h
  have h1 := h v (by simp)
  have h2 := ih ns.tail (fun x hx => h x (by simp [hx]))
  simp only [Dp, Co, List.length_append, Bool.false_eq_true, if_false, List.length_nil]
  omega
theorem Yq : ∀ (is : List Val) (ns : List (List UInt8)), ns.length = is.length → (∀ v ∈ is, ((Bu v).length : Int) = Ck v) → ((Dp true is ns).length : Int) = Co is + (ns.map Cs).sum := by
 intro is
 induction is with
 | nil => intro ns hn h; obtain rfl : ns = [] := List.eq_nil_of_length_eq_zero (by simpa using hn); simp [Dp, Co]
 | cons v r ih =>
  intro ns hn h
  cases ns with
  | nil => simp at hn
  | cons x q =>
   have h1 := h v (by simp)
   have h2 := ih q (by simpa using hn) (fun y hy => h y (by simp [hy]))
   simp only [Dp, Co, List.length_append, if_true, List.headD_cons, List.tail_cons, List.map_cons, List.sum_cons, Cs]
   omega
theorem Qt (a b : List (List UInt8)) : Ak (a ++ b) = Ak a ++ Ak b := by simp [Ak]
theorem U5 {tg : Nat} {es : List (List UInt8)} {s : List UInt8} {st : List LObj} (hs : st[tg]? = some (.spare 1 (List.length (Ak es)))) (hb : (es.length + 1) * 16 ≤ 140737488355328) :
  Ao A0 [] st (.append false 1 16 (.const (.sl (Ak es) tg (List.length (Ak es)))) (.const (.tight [[.str s]]))) =
   some (.sl (Ak (es ++ [s])) tg (List.length (Ak (es ++ [s]))), st.set tg (.spare 1 (List.length (Ak (es ++ [s]))))) := by
 have := Jf (size := 1) (bytes := 16) (tg := tg) (E := Ak es) (X := [[.str s]]) (st := st) (x := .tight [[.str s]]) hs rfl rfl
  (by rw [Bl]; exact hb) (by rw [Bl]; simp; omega) (by decide)
 rw [this, Qt]
 rfl
theorem U6 {s : List UInt8} {st : List LObj} :
  Ao A0 [] st (.append false 1 16 (.const (.tight [])) (.const (.tight [[.str s]]))) =
   some (.sl (Ak [s]) st.length (List.length (Ak [s])), st ++ [.spare 1 (List.length (Ak [s]))]) := by
 exact Fy (size := 1) (bytes := 16) (E := []) (X := [[.str s]]) (st := st) (x := .tight [[.str s]]) rfl rfl rfl (by simp) (by simp) (by simp) (by decide)
end Go.LS
set_option linter.unusedVariables false
namespace Go.LS
end Go.LS
set_option linter.unusedVariables false
namespace Go.LS
end Go.LS
namespace Go.LS
theorem dlt {i n : Nat} (h : i < n) : decide ((i : Int) < ((n : Nat) : Int)) = true := decide_eq_true (by omega)
theorem dlt_n {n : Nat} : decide (((n : Nat) : Int) < ((n : Nat) : Int)) = false := decide_eq_false (by omega)
theorem ifE {lp : Bs} {f : FuncId} {a : List LV} {s : List LObj} {x y : LV × List LObj} (h : Runs lp f a s x) (e : x = y) : Runs lp f a s y := e ▸ h
end Go.LS
set_option linter.unusedVariables false
namespace Go.LS
end Go.LS
set_option linter.unusedVariables false
set_option linter.unusedSimpArgs false
namespace Go.LS
def Yt (es : List (List PV)) : List (List LV) := es.map fun e => e.map LV.p
theorem refs_p (e : List PV) : (e.map LV.p).flatMap LV.refs = [] := by
 induction e with
 | nil => rfl
 | cons a b ih => rw [List.map_cons, List.flatMap_cons, ih]; rfl
theorem An (es : List (List PV)) : (LObj.row (Yt es)).refs = [] := by
 simp only [LObj.refs, Yt]
 induction es with
 | nil => rfl
 | cons e r ih => rw [List.map_cons, List.flatMap_cons, ih, refs_p]; rfl
theorem Aj (es : List (List PV)) (f : Nat → Nat) : (LObj.row (Yt es)).ren f = .row (Yt es) := by
 simp only [LObj.ren, Yt, List.map_map]
 congr 1
 apply List.map_congr_left
 intro e _
 simp only [Function.comp, List.map_map]
 apply List.map_congr_left
 intro c _
 rfl
theorem Mg {lp : Bs} {f : FuncId} {args0 args : List LV} {st st1 st' : List LObj} {r v : LV} (h : Runs lp f args [] (r, st1)) (hw : wk (lp.weak f) args0 = args) (h0 : args.flatMap LV.refs = []) (hr : args.map (LV.ren fun q => ([] : List Nat).idxOf q) = args)
  (hv : r.ren (Bb [] st.length) = v) (hs : st ++ st1.map (LObj.ren (Bb [] st.length)) = st') : Bh lp f args0 st (v, st') := by
 have hk : Pd lp f args0 st r st1 = some (v, st', Runs lp f args [] (r, st1)) := by
  unfold Pd
  simp only [hw, h0]
  have e1 : Eo st 100000 [] [] = [] := rfl
  rw [e1]
  simp only [hr]
  have e2 : sub st [] = [] := rfl
  have e3 : (Eb st [] && ([] : List Nat).all (([] : List Nat).contains ·) && decide ([] : List Nat).Nodup) = true := rfl
  rw [if_pos e3, if_pos (show ([] : List Nat).length ≤ st1.length from Nat.zero_le _), e2, hv]
  simp only [List.length_nil, List.take_zero, List.map_nil, Di, List.drop_zero]
  rw [hs]
 obtain ⟨n, hn⟩ := H5 hk h
 exact ⟨n, hn⟩
def oG {lp : Bs} {k : Nat} {x : List Bool × B0} {t1 t t' : List LV} {st1 st st' : List LObj} {o : Dj} (_ : gc k t1 st1 = some (t, st)) (_ : LoopN lp k x t st (o, t', st')) : Orc := .lg o t' st' t st
def oA {lp : Bs} {f : FuncId} {args : List LV} {st st' : List LObj} {v : LV} (_ : Bh lp f args st (v, st')) : Orc := .cg v st'
end Go.LS
namespace Go.LS
end Go.LS
namespace Go.LS
end Go.LS
set_option linter.unusedVariables false
set_option linter.unusedSimpArgs false
namespace Go.LS
theorem A8 {lp : Bs} {f : FuncId} {args0 args args' : List LV} {st sh st1 st' sub' : List LObj} {r v : LV} {ids : List Nat} (hr : st.map LObj.refs = sh.map LObj.refs) (hw : wk (lp.weak f) args0 = args)
  (hi : Eo sh 100000 (args.flatMap LV.refs) [] = ids) (hc : (Eb sh ids && (args.flatMap LV.refs).all (ids.contains ·) && decide ids.Nodup) = true)
  (ha : args.map (LV.ren fun q => ids.idxOf q) = args') (hs : sub st ids = sub') (h : Runs lp f args' sub' (r, st1)) (hl : decide (ids.length ≤ st1.length) = true) (hv : r.ren (Bb ids st.length) = v)
  (hp : Di st ids ((st1.take ids.length).map (LObj.ren (Bb ids st.length))) ++ (st1.drop ids.length).map (LObj.ren (Bb ids st.length)) = st') : Bh lp f args0 st (v, st') := by
 obtain ⟨n, hn⟩ := Runs.at h
 refine ⟨n, fun m hm => ?_⟩
 unfold Cx
 simp only
 rw [Kz, hw, R7 hr, hi, Pf hr, if_pos hc, ha, hs, hn m hm]
 simp only
 rw [if_pos (of_decide_eq_true hl), hv, hp]
section
variable {o n size : Nat} {X : List (List PV)} {st : List LObj}
end
end Go.LS
namespace Go.LS
theorem flat_nil {α β : Type} {f : α → List β} {l : List α} (h : ∀ x ∈ l, f x = []) : l.flatMap f = [] := by
 induction l with
 | nil => rfl
 | cons a r ih => rw [List.flatMap_cons, h a (List.mem_cons_self ..), ih fun x hx => h x (List.mem_cons_of_mem _ hx)]; rfl
end Go.LS
set_option linter.unusedVariables false
namespace Go.LS
end Go.LS
namespace Go.LS
def A4 : Val := .mk 0 0 [] [] []
end Go.LS
namespace Go.LS
end Go.LS
namespace Go.LS
def kV : Val → Int | .mk k _ _ _ _ => k
def nV : Val → Int | .mk _ n _ _ _ => n
def sV : Val → List UInt8 | .mk _ _ s _ _ => s
def iV : Val → List Val | .mk _ _ _ i _ => i
def mV : Val → List (List UInt8) | .mk _ _ _ _ m => m
end Go.LS
set_option linter.unusedVariables false
set_option linter.unusedSimpArgs false
namespace Go.LS
def Ie : Option Val → List LV
 | none => [.p (.bool false), .p (.int .i64 0), .p (.int .i64 0), .p (.str []), .tight [], .tight []]
 | some (.mk k n s is ns) => [.p (.bool true), .p (.int .i64 k), .p (.int .i64 n), .p (.str s), .p (.sl (Ad is)), .p (.sl (Ak ns))]
def Aa (R : List (Option Val)) : List (List LV) := R.map Ie
theorem Vd (o : Option Val) : (Ie o).flatMap LV.refs = [] := by
 cases o with
 | none => rfl
 | some v => obtain ⟨k, n, s, is, ns⟩ := v; rfl
theorem Gw (o : Option Val) : (Ie o).length = 6 := by
 cases o with
 | none => rfl
 | some v => obtain ⟨k, n, s, is, ns⟩ := v; rfl
theorem Yu (o : Option Val) (f : Nat → Nat) : (Ie o).map (LV.ren f) = Ie o := by
 cases o with
 | none => rfl
 | some v => obtain ⟨k, n, s, is, ns⟩ := v; rfl
theorem Al (R : List (Option Val)) : (LObj.row (Aa R)).refs = [] := by
 refine flat_nil fun e he => ?_
 obtain ⟨o, _, rfl⟩ := List.mem_map.1 he
 exact Vd o
theorem Af (R : List (Option Val)) (f : Nat → Nat) : (LObj.row (Aa R)).ren f = .row (Aa R) := by
 simp only [LObj.ren, LObj.row.injEq, Aa, List.map_map]
 exact List.map_congr_left fun o _ => Yu o f
def wI (x m : Int) : Bool := decide (x ≥ 0) && decide (x ≤ m)
def Bj (kp t : Int) (R : List (Option Val)) (x : Option Val) : List (Option Val) := if kp > 0 then R.set (Int.toNat (Int.tmod (t + 1) kp)) x else R
theorem Gx (R : List (Option Val)) : (Aa R).length = R.length := by simp [Aa]
theorem Lp {R : List (Option Val)} {i : Nat} {o : Option Val} (h : R[i]? = some o) : (Aa R)[i]? = some (Ie o) := by simp [Aa, h]
theorem Sw (R : List (Option Val)) : Ky 6 (Aa R) = true := by
 simp only [Ky, Aa, List.all_map]
 rw [List.all_eq_true]
 intro o _
 simp [Gw]
theorem Cr {o n k : Nat} {R : List (Option Val)} {st : List LObj} (hs : st[o]? = some (.row (Aa R))) (hk : k < n) (he : k < R.length) {j : Int} (hj : j = (k : Int)) :
  Ao A0 [] st (.indexAddr 6 (.const (.rs o 0 n)) (.const (.p (.int .i64 j)))) = some (.ptr o k 0, st) := by
 subst hj
 have h1 : ¬ ((k : Int) < 0) := by omega
 have h2 : (k : Int) < (n : Int) := by omega
 simp only [Ao, LX.ev, LV.asInt, if_neg h1, if_pos h2, hs, Int.toNat_natCast, Nat.zero_add, Lp (List.getElem?_eq_getElem he), Gw, if_true]
theorem Mh {o k : Nat} {R : List (Option Val)} {x : Option Val} {st : List LObj} (hs : st[o]? = some (.row (Aa R))) (he : R[k]? = some x) :
  Ao A0 [] st (.load true 6 (.const (.ptr o k 0))) = some (.agg (Ie x), st) := by
 have hl := Gw x
 simp only [Ao, LX.ev, LV.ldAt, hs, Lp he]
 rw [if_pos (by omega)]
 simp only [List.drop_zero, Ea, if_true]
 rw [List.take_of_length_le (by omega)]
def Au (R : List (Option Val)) (k : Nat) : Option Val := R.getD k none
theorem Jp {R : List (Option Val)} {k : Nat} (h : k < R.length) : R[k]? = some (Au R k) := by simp [Au, h]
theorem Iu {o k : Nat} {R : List (Option Val)} {st : List LObj} (hs : st[o]? = some (.row (Aa R))) (he : k < R.length) (hn : (Au R k).isSome = false) :
  Ao A0 [] st (.load true 6 (.const (.ptr o k 0))) = some (.agg [.p (.bool false), .p (.int .i64 0), .p (.int .i64 0), .p (.str []), .tight [], .tight []], st) := by
 have h := Jp he
 cases hq : Au R k with
 | some v => rw [hq] at hn; cases hn
 | none => rw [hq] at h; exact Mh hs h
theorem Iv {o k : Nat} {R : List (Option Val)} {st : List LObj} (hs : st[o]? = some (.row (Aa R))) (he : k < R.length) (hn : (Au R k).isSome = true) :
  Ao A0 [] st (.load true 6 (.const (.ptr o k 0))) = some (.agg [.p (.bool true), .p (.int .i64 (kV ((Au R k).getD A4))), .p (.int .i64 (nV ((Au R k).getD A4))), .p (.str (sV ((Au R k).getD A4))), .p (.sl (Ad (iV ((Au R k).getD A4)))), .p (.sl (Ak (mV ((Au R k).getD A4))))], st) := by
 have h := Jp he
 cases hq : Au R k with
 | none => rw [hq] at hn; cases hn
 | some v =>
  rw [hq] at h
  have := Mh hs h
  obtain ⟨a, b, c, d, e⟩ := v
  exact this
theorem Yv (R : List (Option Val)) (k : Nat) (x : Option Val) : (Aa R).set k (Ie x) = Aa (R.set k x) := by simp [Aa, List.map_set]
theorem Mi {o k : Nat} {R : List (Option Val)} {x : Option Val} {st : List LObj} (hs : st[o]? = some (.row (Aa R))) (he : k < R.length) :
  Ao A0 [] st (.store 6 (.const (.ptr o k 0)) (.const (.agg (Ie x)))) = some (.tup [], st.set o (.row (Aa (R.set k x)))) := by
 have hl := Gw x
 have hl2 := Gw R[k]
 simp only [Ao, LX.ev, LV.cells?, hl, if_true, LV.stAt, hs, Lp (List.getElem?_eq_getElem he)]
 rw [if_pos (by omega)]
 simp only [List.take_zero, List.nil_append, Nat.zero_add]
 rw [List.drop_eq_nil_of_le (by omega), List.append_nil, Yv]
theorem Sx {st : List LObj} {c : Int} (h : 0 ≤ c) (h2 : c ≤ 1000000) :
  Ao A0 [] st (.mkslice 6 88 [.p (.bool false), .p (.int .i64 0), .p (.int .i64 0), .p (.str []), .tight [], .tight []] (.const (.p (.int .i64 c))) (.const (.p (.int .i64 c)))) = some (.rs st.length 0 (Int.toNat c), st ++ [.row (Aa (List.replicate (Int.toNat c) none))]) := by
 have h1 : ¬ (c = 0 ∧ 0 < c) := by omega
 have h3 : 0 ≤ c ∧ c ≤ c ∧ c * (88 : Nat) ≤ 281474976710656 ∧ c ≤ maxLen ∧ [LV.p (.bool false), .p (.int .i64 0), .p (.int .i64 0), .p (.str []), .tight [], .tight []].length = 6 ∧ 0 < 6 := ⟨h, by omega, by omega, by simp [maxLen]; omega, rfl, by decide⟩
 simp only [Ao, LX.ev, LV.asInt]
 rw [if_pos h3, if_neg h1]
 simp only [Aa, List.map_replicate, if_true]
 rfl
theorem Fh {x y : Int} {st : List LObj} (h : y ≠ 0) : Ao A0 [] st (.bin .rem (.const (.p (.int .i64 x))) (.const (.p (.int .i64 y)))) = some (.p (.int .i64 (Int.tmod x y)), st) := by
 simp only [Ao, LX.ev, Y9, ibin]
 simp [h]
def Bi (kp b t : Int) : Int := (if t - kp > b then t - kp else b) + 1
def Av (kp b t : Int) (R : List (Option Val)) (i : Int) : Val × Int × Int :=
 if i < 1 ∨ i > t then (A4, 0, 4) else if i < Bi kp b t then (A4, 3, 0) else
  match Au R (Int.toNat (Int.tmod i kp)) with
  | some v => (v, 2, 0)
  | none => (A4, 1, 0)
theorem Qv {o n : Nat} {R : List (Option Val)} {st : List LObj} (hs : st[o]? = some (.row (Aa R))) (hn : n = R.length) (h0 : 0 < n) (hb : n ≤ 1000000) :
  Ao A0 [] st (.appendR 6 88 (.const (.tight [])) (.const (.rs o 0 n))) = some (.rs st.length 0 n, st ++ [.row (Aa R)]) := by
 subst hn
 have ha : Eq st (.rs o 0 R.length) = some (Aa R) := by
  simp only [Eq, hs]
  rw [if_pos (by rw [Gx]; omega), List.drop_zero, List.take_of_length_le (by rw [Gx]; exact Nat.le_refl _)]
 have hYe : (Aa R).isEmpty = false := by cases R with | nil => simp at h0 | cons a b => rfl
 have hc : E0 (Aa R).length 88 = true ∧ (Aa R).length ≤ maxLen ∧ 0 < 6 := ⟨by rw [Gx]; exact M7 (by omega), by rw [Gx]; simp [maxLen]; omega, by decide⟩
 simp only [Ao, LX.ev, Ij, ha, Sw, Bool.not_true, Bool.false_eq_true, if_false, hYe]
 rw [if_pos hc, Gx]
theorem O0 {o : Nat} {R : List (Option Val)} {st : List LObj} (hs : st[o]? = some (.row (Aa R))) (hn : R.length = 0) :
  Ao A0 [] st (.appendR 6 88 (.const (.tight [])) (.const (.rs o 0 0))) = some (.tight [], st) := by
 have e : R = [] := List.length_eq_zero_iff.1 hn
 subst e
 have ha : Eq st (.rs o 0 0) = some [] := by simp only [Eq, hs]; rfl
 simp only [Ao, LX.ev, Ij, ha]
 rfl
end Go.LS
set_option linter.unusedVariables false
set_option linter.unusedSimpArgs false
namespace Go.LS
def Sy (es : List (List PV)) : List (List LV) := Yt es ++ [[.p (.int .i64 0), .p (.int .i64 0), .p (.str []), .tight [], .tight []]]
theorem Am (es : List (List PV)) : (LObj.row (Sy es)).refs = [] := by
 have := An es
 simp only [LObj.refs, Sy, List.flatMap_append] at this ⊢
 rw [this]; rfl
theorem Ag (es : List (List PV)) (f : Nat → Nat) : (LObj.row (Sy es)).ren f = .row (Sy es) := by
 have := Aj es f
 simp only [LObj.ren, Sy, List.map_append, LObj.row.injEq] at this ⊢
 rw [this]; rfl
end Go.LS

/- A small semantics of loaded Go code that the kernel can run, part 6. -/
import Derived.Test.YtmbjojnldbeicaaLsG5
import Derived.SizedLaws
import Derived.OpenShut
import Derived.Carry
import Derived.ChangeShapes
set_option linter.unusedVariables false
set_option linter.unusedSimpArgs false
namespace Go.LS
def Conj : List Prop → Prop
  | [] => True
  | p :: r => p ∧ Conj r
theorem Conj.all : ∀ {ps : List Prop}, Conj ps → AllP ps
  | [], _, p, hp => by cases hp
  | q :: r, h, p, hp => by
    rcases List.mem_cons.1 hp with rfl | hp
    · exact h.1
    · exact h.2.all p hp
def runO (lp : LProg) (N : Nat) (f : FuncId) (args : List LV) (st : List LObj) (os : Os) : Option (LV × List LObj × List Prop) :=
  match lp.summ f with
  | some _ => none
  | none => match lp.fns f with
    | none => none
    | some lf => match execO lp st.length N lf.body (wk (lp.weak f) args ++ List.replicate (lf.ntmps - args.length) .und) st os with
      | some (.exit _, _, _, _, _) => none
      | some (_, t', st', ps, _) => match evRes t' st' lf.results with
        | some vs => match frz (lp.wres f) st' vs with
          | (vs, st') => (match gc st.length vs st' with
            | some (vs', st'') => some (oneRes vs', st'', ps)
            | none => none)
        | none => none
      | none => none
theorem runO_sound {lp : LProg} {N : Nat} {f : FuncId} {args : List LV} {st st' : List LObj} {os : Os} {v : LV} {ps : List Prop} (h : runO lp N f args st os = some (v, st', ps)) (hp : Conj ps) : Runs lp f args st (v, st') := by
  unfold runO at h
  split at h
  · cases h
  · rename_i hsm
    split at h
    · cases h
    · rename_i lf hlf
      split at h
      · cases h
      · rename_i out t1 st1 ps1 os1 hne hex
        split at h
        · rename_i vs hvs
          dsimp only at h
          split at h
          · rename_i vs' st2 hgc
            simp only [Option.some.injEq, Prod.mk.injEq] at h
            obtain ⟨rfl, rfl, rfl⟩ := h
            obtain ⟨n, hn⟩ := execO_sound hex hp.all
            refine ⟨n + 1, ?_⟩
            simp only [runF, hsm, hlf, hn]
            cases out with
            | exit i => exact (hne i rfl).elim
            | normal => simp only [hvs, hgc]
            | ret => simp only [hvs, hgc]
          · cases h
        · cases h
      · cases h
def roundO (lp : LProg) (N k : Nat) (mask : List Bool) (c : LCode) (t : List LV) (st : List LObj) (os : Os) : Option (LOut × List LV × List LObj × List Prop) :=
  match execO lp k N c t st os with
  | some (.normal, t', st', ps, _) => match gc k (kill mask t') st' with
    | some (t'', st'') => some (.normal, t'', st'', ps)
    | none => none
  | some (o, t', st', ps, _) => some (o, t', st', ps)
  | none => none
theorem LoopAt.on {lp : LProg} {N k : Nat} {mask : List Bool} {c : LCode} {t t' : List LV} {st st' : List LObj} {os : Os} {ps : List Prop} {r : LOut × List LV × List LObj}
    (h : roundO lp N k mask c t st os = some (.normal, t', st', ps)) (hp : Conj ps) (hr : LoopAt lp k mask c t' st' r) : LoopAt lp k mask c t st r := by
  unfold roundO at h
  split at h
  · rename_i t1 st1 ps1 os1 hex
    split at h
    · rename_i t2 st2 hg
      simp only [Option.some.injEq, Prod.mk.injEq, true_and] at h
      obtain ⟨rfl, rfl, rfl⟩ := h
      obtain ⟨n, hn⟩ := (execO_sound hex hp.all).at
      obtain ⟨m, hm⟩ := hr
      refine ⟨max n m + 1, ?_⟩
      rw [hn (max n m + 1) (by omega)]
      simp only [exec, hg]
      cases he : exec (runF lp m) k m c t2 st2 with
      | none => rw [he] at hm; cases hm
      | some x =>
        obtain ⟨o2, t3, st3⟩ := x
        rw [he] at hm
        rw [exec_mono (runF_mono (show m ≤ max n m + 1 by omega)) (show m ≤ max n m by omega) he]
        cases o2 with
        | normal => exact exec_mono (runF_mono (by omega)) (by omega) hm
        | _ => exact hm
    · cases h
  · rename_i hne hex
    simp only [Option.some.injEq, Prod.mk.injEq] at h
    obtain ⟨rfl, rfl, rfl, rfl⟩ := h
    exact (hne rfl).elim
  · cases h
theorem LoopAt.out {lp : LProg} {N k : Nat} {mask : List Bool} {c : LCode} {t t' : List LV} {st st' : List LObj} {os : Os} {ps : List Prop} {o : LOut}
    (h : roundO lp N k mask c t st os = some (o, t', st', ps)) (ho : (match o with | .normal => false | _ => true) = true) (hp : Conj ps) : LoopAt lp k mask c t st (o, t', st') := by
  unfold roundO at h
  split at h
  · split at h
    · cases h; cases ho
    · cases h
  · rename_i o1 t1 st1 ps1 os1 hne hex
    simp only [Option.some.injEq, Prod.mk.injEq] at h
    obtain ⟨rfl, rfl, rfl, rfl⟩ := h
    obtain ⟨n, hn⟩ := execO_sound hex hp.all
    refine ⟨n, ?_⟩
    rw [hn]
    cases o1 with
    | normal => cases ho
    | _ => rfl
  · cases h
def loopsOf : LCode → List (List Bool × LCode)
  | .seq a b => loopsOf a ++ loopsOf b
  | .cond _ a b => loopsOf a ++ loopsOf b
  | .both _ a b c => loopsOf a ++ loopsOf b ++ loopsOf c
  | .block _ _ c => loopsOf c
  | .loop m c => (m, c) :: loopsOf c
  | _ => []
def loopNo (lf : LFn) (i : Nat) : List Bool × LCode := (loopsOf lf.body).getD i ([], .skip)
def tl (i : Nat) : Nat → List (Nat × LV) → List LV
  | 0, _ => []
  | n + 1, [] => .und :: tl (i + 1) n []
  | n + 1, (j, v) :: r => match Nat.beq i j with
    | true => v :: tl (i + 1) n r
    | false => .und :: tl (i + 1) n ((j, v) :: r)
abbrev OpW (st : List LObj) (op : LOp) (v : LV) (st' : List LObj) : Prop := opStep noCall [] st op = some (v, st')
abbrev LoopN (lp : LProg) (k : Nat) (x : List Bool × LCode) (t : List LV) (st : List LObj) (r : LOut × List LV × List LObj) : Prop := LoopAt lp k x.1 x.2 t st r
def oO {st st' : List LObj} {op : LOp} {v : LV} (_ : OpW st op v st') : Orc := .op v st'
def oC {lp : LProg} {f : Nat} {as : List LV} {st st' : List LObj} {v : LV} (_ : Runs lp f as st (v, st')) : Orc := .call v st'
def oL {lp : LProg} {k : Nat} {x : List Bool × LCode} {t t' : List LV} {st st' : List LObj} {o : LOut} (_ : LoopN lp k x t st (o, t', st')) : Orc := .lp o t' st'
theorem cI {b c : Bool} (h : b = c) : LV.p (PV.bool b) = .p (.bool c) := congrArg (fun b => LV.p (PV.bool b)) h
theorem iteT {lp : LProg} {f : FuncId} {a : List LV} {s : List LObj} {c : Bool} {x y : LV × List LObj} (h : Runs lp f a s (if c = true then x else y)) (hc : c = true) : Runs lp f a s x := by rwa [if_pos hc] at h
theorem iteF {lp : LProg} {f : FuncId} {a : List LV} {s : List LObj} {c : Bool} {x y : LV × List LObj} (h : Runs lp f a s (if c = true then x else y)) (hc : c = false) : Runs lp f a s y := by rwa [if_neg (by simp [hc])] at h
theorem notI {b c : Bool} (h : b = c) : (!b) = !c := by rw [h]
end Go.LS
namespace Go.LS
def runE (lp : LProg) (N : Nat) (f : FuncId) (args : List LV) (st : List LObj) (os : Os) : Option (List LV × List LObj × List Prop) :=
  match lp.summ f with
  | some _ => none
  | none => match lp.fns f with
    | none => none
    | some lf => match execO lp st.length N lf.body (wk (lp.weak f) args ++ List.replicate (lf.ntmps - args.length) .und) st os with
      | some (.exit _, _, _, _, _) => none
      | some (_, t', st', ps, _) => match evRes t' st' lf.results with
        | some vs => some (vs, st', ps)
        | none => none
      | none => none
theorem runE_sound {lp : LProg} {N : Nat} {f : FuncId} {args : List LV} {st st1 s1 st2 : List LObj} {os : Os} {vs vs1 vs2 : List LV} {ps : List Prop} (h : runE lp N f args st os = some (vs, st1, ps)) (hp : Conj ps)
    (hf : frz (lp.wres f) st1 vs = (vs1, s1)) (hg : gc st.length vs1 s1 = some (vs2, st2)) : Runs lp f args st (oneRes vs2, st2) := by
  unfold runE at h
  split at h
  · cases h
  · rename_i hsm
    split at h
    · cases h
    · rename_i lf hlf
      split at h
      · cases h
      · rename_i out t1 st1' ps1 os1 hne hex
        split at h
        · rename_i vs' hvs
          simp only [Option.some.injEq, Prod.mk.injEq] at h
          obtain ⟨rfl, rfl, rfl⟩ := h
          obtain ⟨n, hn⟩ := execO_sound hex hp.all
          refine ⟨n + 1, ?_⟩
          simp only [runF, hsm, hlf, hn]
          cases out with
          | exit i => exact (hne i rfl).elim
          | normal => simp only [hvs, hf, hg]
          | ret => simp only [hvs, hf, hg]
        · cases h
      · cases h
def roundE (lp : LProg) (N k : Nat) (mask : List Bool) (c : LCode) (t : List LV) (st : List LObj) (os : Os) : Option (List LV × List LObj × List Prop) :=
  match execO lp k N c t st os with
  | some (.normal, t', st', ps, _) => some (kill mask t', st', ps)
  | _ => none
theorem LoopAt.onS {lp : LProg} {N k : Nat} {mask : List Bool} {c : LCode} {t t1 t' : List LV} {st st1 st' : List LObj} {os : Os} {ps : List Prop} {r : LOut × List LV × List LObj}
    (h : roundE lp N k mask c t st os = some (t1, st1, ps)) (hp : Conj ps) (hg : gc k t1 st1 = some (t', st')) (hr : LoopAt lp k mask c t' st' r) : LoopAt lp k mask c t st r := by
  unfold roundE at h
  split at h
  · rename_i t2 st2 ps1 os1 hex
    simp only [Option.some.injEq, Prod.mk.injEq] at h
    obtain ⟨rfl, rfl, rfl⟩ := h
    obtain ⟨n, hn⟩ := (execO_sound hex hp.all).at
    obtain ⟨m, hm⟩ := hr
    refine ⟨max n m + 1, ?_⟩
    rw [hn (max n m + 1) (by omega)]
    simp only [exec, hg]
    cases he : exec (runF lp m) k m c t' st' with
    | none => rw [he] at hm; cases hm
    | some x =>
      obtain ⟨o2, t3, st3⟩ := x
      rw [he] at hm
      rw [exec_mono (runF_mono (show m ≤ max n m + 1 by omega)) (show m ≤ max n m by omega) he]
      cases o2 with
      | normal => exact exec_mono (runF_mono (by omega)) (by omega) hm
      | _ => exact hm
  · cases h
theorem refs_at {st sh : List LObj} (hr : st.map LObj.refs = sh.map LObj.refs) (o : Nat) : ((st[o]?).getD .dead).refs = ((sh[o]?).getD .dead).refs := by
  have h : (st.map LObj.refs)[o]? = (sh.map LObj.refs)[o]? := by rw [hr]
  rw [List.getElem?_map, List.getElem?_map] at h
  cases h1 : st[o]? with
  | none => cases h2 : sh[o]? with
    | none => rfl
    | some y => rw [h1, h2] at h; cases h
  | some x => cases h2 : sh[o]? with
    | none => rw [h1, h2] at h; cases h
    | some y => rw [h1, h2] at h; simpa using h
theorem reach_sh {st sh : List LObj} (hr : st.map LObj.refs = sh.map LObj.refs) : ∀ (n : Nat) (todo acc : List Nat), reach st n todo acc = reach sh n todo acc := by
  intro n
  induction n with
  | zero => intro todo acc; cases todo <;> rfl
  | succ n ih =>
    intro todo acc
    cases todo with
    | nil => rfl
    | cons o r => simp only [reach, ih, refs_at hr o]
theorem closed_sh {st sh : List LObj} (hr : st.map LObj.refs = sh.map LObj.refs) (ids : List Nat) : closed st ids = closed sh ids := by
  have hl : st.length = sh.length := by have := congrArg List.length hr; simpa using this
  unfold closed
  rw [hl]
  congr 1
  funext o
  rw [refs_at hr o]
def gcSh (k : Nat) (vs : List LV) (st : List LObj) : Option (List LV × List Nat) :=
  let ids := gcIds k st (vs.flatMap LV.refs)
  if closed st ids && (vs.flatMap LV.refs).all (ids.contains ·) && decide ids.Nodup && decide (ids.take k = List.range k) then
    some (vs.map (LV.ren fun q => ids.idxOf q), ids)
  else none
theorem gc_sh {k : Nat} {vs vs' : List LV} {st sh st' : List LObj} {ids : List Nat} (hr : st.map LObj.refs = sh.map LObj.refs) (hc : gcSh k vs sh = some (vs', ids)) (hs : sub st ids = st') : gc k vs st = some (vs', st') := by
  have e : gcIds k st (vs.flatMap LV.refs) = gcIds k sh (vs.flatMap LV.refs) := by
    unfold gcIds
    rw [reach_sh hr]
    congr 2
    have : ∀ l : List LObj, l.flatMap LObj.refs = (l.map LObj.refs).flatten := fun l => by rw [List.flatMap_def]
    rw [this, this, List.map_take, List.map_take, hr]
  unfold gcSh at hc
  unfold gc
  simp only at hc ⊢
  rw [e, closed_sh hr]
  split at hc
  · rename_i h
    rw [if_pos h]
    simp only [Option.some.injEq, Prod.mk.injEq] at hc
    obtain ⟨rfl, h2⟩ := hc
    rw [← h2] at hs
    rw [hs]
  · cases hc
end Go.LS
set_option linter.unusedVariables false
set_option linter.unusedSimpArgs false
namespace Go.LS
theorem unb_byte (b : UInt8) : unb [.int .u8 b.toNat] = some b := by simp [unb]
theorem unbs_bs : ∀ (L : List UInt8), unbs (bs L) = some L
  | [] => rfl
  | b :: r => by
    have := unbs_bs r
    simp only [bs] at this
    simp [bs, unbs, unb_byte, this]
theorem opIs_b2s {v : LV} {L : List UInt8} {st : List LObj} (h : v.asSl = some (bs L)) : opStep noCall [] st (.cv .b2s (.const v)) = some (.p (.str L), st) := by
  have : lcv .b2s v = some (.str L) := by
    cases v <;> simp only [LV.asSl] at h <;> first | (cases h; done) | skip
    case p v =>
      cases v <;> simp only [LV.asSl] at h <;> first | (cases h; done) | skip
      cases h; simp [lcv, LV.asSl, unbs_bs]
    case sl es t f => cases h; simp [lcv, LV.asSl, unbs_bs]
    case tight es => cases h; simp [lcv, LV.asSl, unbs_bs]
  simp [opStep, LX.ev, this]
theorem bs_len (L : List UInt8) : (bs L).length = L.length := by simp [bs]
theorem bs_append (L M : List UInt8) : bs (L ++ M) = bs L ++ bs M := by simp [bs]
theorem bs_sized (L : List UInt8) : sized 1 (bs L) = true := by simp [sized, bs]
theorem bs_empty (M : List UInt8) : (bs M).isEmpty = M.isEmpty := by cases M <;> rfl
theorem byte_bs {e : Int} (h0 : 0 ≤ e) (h1 : e ≤ 255) : [[PV.int .u8 e]] = bs [UInt8.ofNat e.toNat] := by
  simp [bs]
  omega
theorem opIs_appS {str : Bool} {L M : List UInt8} {es : List (List PV)} {t : Nat} {st : List LObj} {x : LV} (hs : st[t]? = some (.spare 1 L.length)) (hx : appended str st x = some es) (he : es = bs M)
    (hl : L.length + M.length ≤ 200000000000000) : opStep noCall [] st (.append str 1 1 (.const (.sl (bs L) t L.length)) (.const x)) = some (.sl (bs (L ++ M)) t (L ++ M).length, st.set t (.spare 1 (L ++ M).length)) := by
  subst he
  refine orA_of ?_
  simp only [LX.ev, lappend, hx, bs_sized, hs, bs_empty, bs_len]
  by_cases hM : M.isEmpty = true
  · have : M = [] := by simpa using hM
    subst this
    simp
    obtain ⟨h1, h2⟩ := List.getElem?_eq_some_iff.1 hs
    conv => rhs; rw [← h2]
    simp
  · simp only [hM]
    simp [bs_append, maxLen, roomy1 hl]
    omega
theorem opIs_appT {str : Bool} {L M : List UInt8} {es es0 : List (List PV)} {st : List LObj} {x : LV} (he0 : es0 = bs L) (hx : appended str st x = some es) (he : es = bs M) (hM : M ≠ [])
    (hl : L.length + M.length ≤ 200000000000000) : opStep noCall [] st (.append str 1 1 (.const (.tight es0)) (.const x)) = some (.sl (bs (L ++ M)) st.length (L ++ M).length, st ++ [.spare 1 (L ++ M).length]) := by
  subst he he0
  have : M.isEmpty = false := by cases M <;> simp_all
  refine orA_of ?_
  simp only [LX.ev, lappend, hx, bs_sized, bs_empty, bs_len, this]
  simp [bs_append, maxLen, roomy1 hl]
  omega
def vcode (u : Nat) : List UInt8 := if u < 128 then [UInt8.ofNat u] else UInt8.ofNat (u % 128 + 128) :: vcode (u / 128)
termination_by u
decreasing_by omega
theorem vcode_len : ∀ (u : Nat), u < 2 ^ 64 → (vcode u).length ≤ 10 := by
  have key : ∀ k u, u < 128 ^ (k + 1) → (vcode u).length ≤ k + 1 := by
    intro k
    induction k with
    | zero => intro u hu; rw [vcode]; simp at hu; simp [hu]
    | succ k ih =>
      intro u hu
      rw [vcode]
      split
      · simp
      · simp only [List.length_cons]
        have := ih (u / 128) (by rw [Nat.div_lt_iff_lt_mul (by omega)]; rw [Nat.pow_succ] at hu; exact hu)
        omega
  intro u hu
  exact key 9 u (Nat.lt_of_lt_of_le hu (by decide))
end Go.LS
namespace Go.LS
theorem wrap_u8_range (n : Int) : 0 ≤ IntKind.wrap .u8 n ∧ IntKind.wrap .u8 n ≤ 255 := by
  simp only [IntKind.wrap, IntKind.bits, IntKind.signed]
  simp
  omega
theorem wrap_u8_bs (n : Int) : [[PV.int .u8 (IntKind.wrap .u8 n)]] = bs [UInt8.ofNat (IntKind.wrap .u8 n).toNat] := byte_bs (wrap_u8_range n).1 (wrap_u8_range n).2
end Go.LS
namespace Go.LS
theorem opIs_s2b {s : List UInt8} {st : List LObj} (h : s.length ≤ 140737488355328) : opStep noCall [] st (.cv .s2b (.const (.p (.str s)))) = some (.p (.sl (bs s)), st) := by
  simp [opStep, LX.ev, lcv, h]
theorem wrap_u64_nat {n : Nat} (h : n < 2 ^ 64) : IntKind.wrap .u64 (n : Int) = (n : Int) := by
  simp only [IntKind.wrap, IntKind.bits, IntKind.signed]
  simp
  omega
theorem wrap_u64 (n : Int) : IntKind.wrap .u64 n = n % 18446744073709551616 := by
  simp only [IntKind.wrap, IntKind.bits, IntKind.signed]
  simp
theorem wrap_i64 {n : Int} (h0 : -9223372036854775808 ≤ n) (h1 : n ≤ 9223372036854775807) : IntKind.wrap .i64 n = n := by
  simp only [IntKind.wrap, IntKind.bits, IntKind.signed]
  simp
  omega
end Go.LS
namespace Go.LS
theorem vcode_pos (u : Nat) : 0 < (vcode u).length := by rw [vcode]; split <;> simp
end Go.LS
namespace Go.LS
end Go.LS
namespace Go.LS
theorem opIs_sliceStrT {M : List UInt8} {k : IntKind} {hi : Int} {st : List LObj} (h0 : 0 ≤ hi) (h : hi ≤ (M.length : Int)) :
    opStep noCall [] st (.sslice (.const (.p (.str M))) none (some (.const (.p (.int k hi)))) none) = some (.p (.str (M.take hi.toNat)), st) := by
  simp [opStep, LX.ev, lslice, bnd, h0, h]
theorem iteRP {lp : LProg} {f : FuncId} {args : List LV} {st : List LObj} {c : Prop} [Decidable c] {a b : LV × List LObj} (k : c) (h : Runs lp f args st a) : Runs lp f args st (if c then a else b) := by rwa [if_pos k]
theorem iteRN {lp : LProg} {f : FuncId} {args : List LV} {st : List LObj} {c : Prop} [Decidable c] {a b : LV × List LObj} (k : ¬ c) (h : Runs lp f args st b) : Runs lp f args st (if c then a else b) := by rwa [if_neg k]
theorem opIs_idxE {v : LV} {E : List (List PV)} {e : List PV} {z : Nat} {i : Nat} {st : List LObj} (hv : v.asSl = some E) (hr : v.isRs = false) (h : E[i]? = some e) (hz : e.length = z) :
    opStep noCall [] st (.indexAddr z (.const v) (.const (.p (.int .i64 ((i : Nat) : Int))))) = some (.pin e 0, st) := by
  have h0 : ¬ ((i : Int) < 0) := by omega
  cases v <;> simp only [LV.isRs, Bool.true_eq_false] at hr <;> simp only [LV.asSl] at hv <;> first | (cases hv; done) | skip
  all_goals simp [opStep, LX.ev, LV.asInt, LV.asSl, hv, h, h0, hz]
end Go.LS
set_option linter.unusedVariables false
set_option linter.unusedSimpArgs false
namespace Go.LS
inductive Cty where
  | bool
  | int (k : IntKind)
  | str
  | sl (ts : List Cty) (bytes : Nat)
  | pr (Q : List PV → Prop) (bytes : Nat)
mutual
def okPV : Cty → PV → Prop
  | .bool, p => ∃ b, p = .bool b
  | .int k, p => ∃ n, p = .int k n ∧ k.min ≤ n ∧ n ≤ k.max
  | .str, p => ∃ s, p = .str s ∧ s.length ≤ reachBytes
  | .sl ts bytes, p => ∃ es : List (List PV), p = .sl es ∧ es.length * bytes ≤ reachBytes ∧ es.length ≤ maxLen ∧ ∀ e ∈ es, okPVs ts e
  | .pr Q bytes, p => ∃ es : List (List PV), p = .sl es ∧ es.length * bytes ≤ reachBytes ∧ es.length ≤ maxLen ∧ ∀ e ∈ es, Q e
def okPVs : List Cty → List PV → Prop
  | [], ps => ps = []
  | t :: ts, ps => ∃ p r, ps = p :: r ∧ okPV t p ∧ okPVs ts r
end
def tyFs (P : Program) (rc : TypeId → Option (List Cty)) : Nat → List Field → Option (List Cty)
  | _, [] => some []
  | off, f :: r => match rc f.type with
    | some ts => if f.offset = off ∧ ts.length = P.cellsOf f.type then
        match tyFs P rc (off + ts.length) r with
        | some l => some (ts ++ l)
        | none => none
      else none
    | none => none
def tyT (P : Program) (cut : List TypeId) (Q : TypeId → List PV → Prop) : Nat → TypeId → Option (List Cty)
  | 0, _ => none
  | n + 1, t => match P.underlying t with
    | some .bool => some [.bool]
    | some (.int k) => some [.int k]
    | some .string => some [.str]
    | some (.slice e) => if e ∈ cut then some [.pr (Q e) (P.bytesOf e)] else match tyT P cut Q n e with
      | some ts => if ts.length = P.cellsOf e ∧ 0 < ts.length then some [.sl ts (P.bytesOf e)] else none
      | none => none
    | some (.struct fs) => match tyFs P (tyT P cut Q n) 0 fs.toList with
      | some ts => if ts.length = P.cellsOf t then some ts else none
      | none => none
    | some (.array m e) => match tyT P cut Q n e with
      | some ts => if m * ts.length = P.cellsOf t ∧ ts.length = P.cellsOf e then some (List.replicate m ts).flatten else none
      | none => none
    | _ => none
def RecOk (P : Program) (cut : List TypeId) (N : Nat) : Nat → TypeId → List PV → Prop
  | 0, _, _ => False
  | k + 1, t, ps => ∃ ts, tyT P cut (RecOk P cut N k) N t = some ts ∧ okPVs ts ps
def Sub2 (Q R : TypeId → List PV → Prop) : Prop := ∀ e x, Q e x → R e x
def Cle (ts us : List Cty) : Prop := us.length = ts.length ∧ ∀ ps, okPVs ts ps → okPVs us ps
theorem Cle.append {a b c d : List Cty} (h : Cle a b) (k : Cle c d) : Cle (a ++ c) (b ++ d) := by
  refine ⟨by simp [h.1, k.1], ?_⟩
  have : ∀ (a b : List Cty), b.length = a.length → (∀ ps, okPVs a ps → okPVs b ps) → ∀ ps, okPVs (a ++ c) ps → okPVs (b ++ d) ps := by
    intro a b hl hab ps hp
    obtain ⟨p1, p2, rfl, h1, h2⟩ := split a c ps hp
    exact join b d p1 p2 (hab _ h1) (k.2 _ h2)
  exact this a b h.1 h.2
where
  split : ∀ (a c : List Cty) (ps : List PV), okPVs (a ++ c) ps → ∃ p1 p2, ps = p1 ++ p2 ∧ okPVs a p1 ∧ okPVs c p2
    | [], c, ps, h => ⟨[], ps, rfl, by simp [okPVs], h⟩
    | t :: a, c, ps, h => by
      simp only [List.cons_append, okPVs] at h
      obtain ⟨p, r, rfl, h1, h2⟩ := h
      obtain ⟨p1, p2, rfl, h3, h4⟩ := split a c r h2
      exact ⟨p :: p1, p2, rfl, by simp only [okPVs]; exact ⟨p, p1, rfl, h1, h3⟩, h4⟩
  join : ∀ (a c : List Cty) (p1 p2 : List PV), okPVs a p1 → okPVs c p2 → okPVs (a ++ c) (p1 ++ p2)
    | [], c, p1, p2, h, k => by simp only [okPVs] at h; subst h; exact k
    | t :: a, c, p1, p2, h, k => by
      simp only [okPVs] at h
      obtain ⟨p, r, rfl, h1, h2⟩ := h
      simp only [List.cons_append, okPVs]
      exact ⟨p, r ++ p2, rfl, h1, join a c r p2 h2 k⟩
theorem tyFs_mono {P : Program} {rc rd : TypeId → Option (List Cty)} (h : ∀ t ts, rc t = some ts → ∃ us, rd t = some us ∧ Cle ts us) : ∀ {fs : List Field} {off : Nat} {ts : List Cty}, tyFs P rc off fs = some ts → ∃ us, tyFs P rd off fs = some us ∧ Cle ts us
  | [], off, ts, he => by simp only [tyFs] at he; cases he; exact ⟨[], rfl, rfl, fun _ h => h⟩
  | f :: fs, off, ts, he => by
    simp only [tyFs] at he
    split at he
    · rename_i t1 h1
      split at he
      · rename_i hc
        split at he
        · rename_i l h2
          cases he
          obtain ⟨u1, g1, g2⟩ := h _ _ h1
          obtain ⟨u2, k1, k2⟩ := tyFs_mono h h2
          refine ⟨u1 ++ u2, ?_, g2.append k2⟩
          simp only [tyFs, g1]
          rw [if_pos ⟨hc.1, by rw [g2.1]; exact hc.2⟩, g2.1, k1]
        · cases he
      · cases he
    · cases he
theorem Cle.rep {a b : List Cty} (h : Cle a b) : ∀ m, Cle (List.replicate m a).flatten (List.replicate m b).flatten
  | 0 => ⟨rfl, fun _ h => h⟩
  | m + 1 => by rw [List.replicate_succ, List.replicate_succ, List.flatten_cons, List.flatten_cons]; exact h.append (h.rep m)
theorem tyT_mono {P : Program} {cut : List TypeId} {Q R : TypeId → List PV → Prop} (hQ : Sub2 Q R) : ∀ {n : Nat} {t : TypeId} {ts : List Cty}, tyT P cut Q n t = some ts → ∃ us, tyT P cut R n t = some us ∧ Cle ts us
  | 0, t, ts, h => by simp [tyT] at h
  | n + 1, t, ts, h => by
    simp only [tyT] at h ⊢
    split at h
    · cases h; exact ⟨_, rfl, rfl, fun _ h => h⟩
    · cases h; exact ⟨_, rfl, rfl, fun _ h => h⟩
    · cases h; exact ⟨_, rfl, rfl, fun _ h => h⟩
    · rename_i e hu
      split at h
      · rename_i hc
        cases h
        rw [if_pos hc]
        refine ⟨_, rfl, rfl, fun ps hp => ?_⟩
        simp only [okPVs, okPV] at hp ⊢
        obtain ⟨p, r, rfl, ⟨es, rfl, a1, a2, a3⟩, h2⟩ := hp
        exact ⟨_, _, rfl, ⟨es, rfl, a1, a2, fun x hx => hQ _ _ (a3 x hx)⟩, h2⟩
      · rename_i hc
        rw [if_neg hc]
        split at h
        · rename_i us hus
          split at h
          · rename_i hl
            cases h
            obtain ⟨vs, g1, g2⟩ := tyT_mono hQ hus
            simp only [g1]
            rw [if_pos ⟨by rw [g2.1]; exact hl.1, by rw [g2.1]; exact hl.2⟩]
            refine ⟨_, rfl, rfl, fun ps hp => ?_⟩
            simp only [okPVs, okPV] at hp ⊢
            obtain ⟨p, r, rfl, ⟨es, rfl, a1, a2, a3⟩, h2⟩ := hp
            exact ⟨_, _, rfl, ⟨es, rfl, a1, a2, fun x hx => g2.2 _ (a3 x hx)⟩, h2⟩
          · cases h
        · cases h
    · split at h
      · rename_i us hus
        split at h
        · rename_i hl
          cases h
          obtain ⟨vs, g1, g2⟩ := tyFs_mono (fun t ts h => tyT_mono hQ h) hus
          simp only [g1]
          rw [if_pos (by rw [g2.1]; exact hl)]
          exact ⟨_, rfl, g2⟩
        · cases h
      · cases h
    · rename_i m e hu
      split at h
      · rename_i us hus
        split at h
        · rename_i hl
          cases h
          obtain ⟨vs, g1, g2⟩ := tyT_mono hQ hus
          simp only [g1]
          rw [if_pos ⟨by rw [g2.1]; exact hl.1, by rw [g2.1]; exact hl.2⟩]
          exact ⟨_, rfl, g2.rep m⟩
        · cases h
      · cases h
    · cases h
theorem RecOk.mono {P : Program} {cut : List TypeId} {N : Nat} : ∀ k, Sub2 (RecOk P cut N k) (RecOk P cut N (k + 1))
  | 0, e, x, h => h.elim
  | k + 1, e, x, h => by
    obtain ⟨ts, h1, h2⟩ := h
    obtain ⟨us, g1, g2⟩ := tyT_mono (RecOk.mono k) h1
    exact ⟨us, g1, g2.2 _ h2⟩
abbrev cellsF (w : World) : Nat → Nat → Option Value := fun b o => w.cell? ⟨b, o, none⟩
def CellsOk (F : Nat → Nat → Option Value) (ts : List Cty) (cs : List Value) (ps : List PV) : Prop :=
  cs.length = ps.length ∧ okPVs ts ps ∧ ∀ (i : Nat) p, ps[i]? = some p → ∃ u, cs[i]? = some u ∧ VP F p u
theorem okPVs_append : ∀ {ts us : List Cty} {ps qs : List PV}, okPVs ts ps → okPVs us qs → okPVs (ts ++ us) (ps ++ qs)
  | [], us, ps, qs, h, k => by simp only [okPVs] at h; subst h; simpa using k
  | t :: ts, us, ps, qs, h, k => by
    simp only [okPVs] at h
    obtain ⟨p, r, rfl, h1, h2⟩ := h
    simp only [List.cons_append, okPVs]
    exact ⟨p, r ++ qs, rfl, h1, okPVs_append h2 k⟩
theorem okPVs_length : ∀ {ts : List Cty} {ps : List PV}, okPVs ts ps → ps.length = ts.length
  | [], ps, h => by simp only [okPVs] at h; subst h; rfl
  | t :: ts, ps, h => by
    simp only [okPVs] at h
    obtain ⟨p, r, rfl, h1, h2⟩ := h
    simp [okPVs_length h2]
theorem CellsOk.append {F : Nat → Nat → Option Value} {ts us : List Cty} {cs ds : List Value} {ps qs : List PV} (h : CellsOk F ts cs ps) (k : CellsOk F us ds qs) : CellsOk F (ts ++ us) (cs ++ ds) (ps ++ qs) := by
  refine ⟨by simp [h.1, k.1], okPVs_append h.2.1 k.2.1, fun i p hi => ?_⟩
  by_cases hlt : i < ps.length
  · rw [List.getElem?_append_left hlt] at hi
    rw [List.getElem?_append_left (by rw [h.1]; exact hlt)]
    exact h.2.2 i p hi
  · rw [List.getElem?_append_right (by omega)] at hi
    rw [List.getElem?_append_right (by rw [h.1]; omega), h.1]
    exact k.2.2 _ p hi
theorem CellsOk.one {F : Nat → Nat → Option Value} {t : Cty} {p : PV} {u : Value} (h : okPV t p) (k : VP F p u) : CellsOk F [t] [u] [p] := by
  refine ⟨rfl, ?_, fun i q hi => ?_⟩
  · simp only [okPVs]; exact ⟨p, [], rfl, h, rfl⟩
  · cases i with
    | zero => simp at hi; subst hi; exact ⟨u, rfl, k⟩
    | succ i => simp at hi
section
variable {H : Type} {enc : TypeId × Value → H} {P : Program} {W : World}
theorem weightsAll_mem {e : TypeId} : ∀ {ds : List (DataW H)} {d : DataW H} {x : Nat}, d ∈ ds → x ∈ d.weights P e → x ∈ DataW.weightsAll P e ds
  | [], d, x, hd, _ => by cases hd
  | y :: r, d, x, hd, hx => by
    simp only [DataW.weightsAll, List.mem_append]
    rcases List.mem_cons.1 hd with rfl | hd
    · exact .inl hx
    · exact .inr (weightsAll_mem hd hx)
theorem fields_pv {n : Nat} {rc : TypeId → Option (List Cty)}
    (ih : ∀ t cs d ps ts, DataW.trod enc P W 0 (fun _ => true) true n t cs = some (d, ps) → rc t = some ts → (∀ x ∈ d.weights P t, x ≤ reachBytes) → ∃ pv, CellsOk (cellsF W) ts cs pv) :
    ∀ (fs : List Field) (off : Nat) (cs : List Value) (xs : List (DataW H × List MemPlace)) (ts : List Cty), tyFs P rc off fs = some ts → xs.length = fs.length →
      (∀ (i : Nat) f, fs[i]? = some f → DataW.trod enc P W 0 (fun _ => true) true n f.type ((cs.drop (f.offset - off)).take (P.cellsOf f.type)) = xs[i]?) →
      (∀ x ∈ DataW.weightsEach P (fs.map (·.type)) (xs.map (·.1)), x ≤ reachBytes) → cs.length = ts.length → ∃ pv, CellsOk (cellsF W) ts cs pv
  | [], off, cs, xs, ts, ht, _, _, _, hl => by
    simp only [tyFs] at ht; cases ht
    simp at hl
    subst hl
    exact ⟨[], rfl, rfl, by simp⟩
  | f :: fs, off, cs, xs, ts, ht, hx, hg, hw, hl => by
    simp only [tyFs] at ht
    split at ht
    · rename_i ts1 h1
      split at ht
      · rename_i hc
        split at ht
        · rename_i l h2
          cases ht
          cases xs with
          | nil => simp at hx
          | cons x xs =>
            have g0 := hg 0 f rfl
            rw [hc.1, Nat.sub_self] at g0
            simp only [List.drop_zero, List.getElem?_cons_zero] at g0
            simp only [List.map_cons, DataW.weightsEach, List.mem_append] at hw
            obtain ⟨pv1, c1⟩ := ih _ _ x.1 x.2 _ g0 h1 (fun y hy => hw y (.inl hy))
            rw [List.length_append] at hl
            have hd : (cs.drop ts1.length).length = l.length := by simp [hl]
            obtain ⟨pv2, c2⟩ := fields_pv ih fs (off + ts1.length) (cs.drop ts1.length) xs l h2 (by simpa using hx) (fun i f' hf => by
              have := hg (i + 1) f' (by simpa using hf)
              simp only [List.getElem?_cons_succ] at this
              rw [← this, List.drop_drop]
              have hle : off + ts1.length ≤ f'.offset := tyFs_le h2 i f' hf
              congr 3
              omega) (fun y hy => hw y (.inr hy)) hd
            have e : cs = (cs.take (P.cellsOf f.type)) ++ cs.drop ts1.length := by rw [← hc.2, List.take_append_drop]
            rw [e]
            exact ⟨pv1 ++ pv2, c1.append c2⟩
        · cases ht
      · cases ht
    · cases ht
where
  tyFs_le {rc : TypeId → Option (List Cty)} : ∀ {fs : List Field} {off : Nat} {ts : List Cty}, tyFs P rc off fs = some ts → ∀ (i : Nat) f, fs[i]? = some f → off ≤ f.offset
  | [], _, _, _, i, f, hf => by simp at hf
  | g :: fs, off, ts, h, i, f, hf => by
    simp only [tyFs] at h
    split at h
    · rename_i ts1 h1
      split at h
      · rename_i hc
        split at h
        · rename_i l h2
          cases i with
          | zero => simp at hf; subst hf; omega
          | succ i => have := tyFs_le h2 i f (by simpa using hf); omega
        · cases h
      · cases h
    · cases h
theorem arr_pv {n : Nat} {e : TypeId} {ts : List Cty}
    (ih : ∀ cs d ps, DataW.trod enc P W 0 (fun _ => true) true n e cs = some (d, ps) → (∀ x ∈ d.weights P e, x ≤ reachBytes) → ∃ pv, CellsOk (cellsF W) ts cs pv) (hc : ts.length = P.cellsOf e) :
    ∀ (m : Nat) (cs : List Value) (xs : List (DataW H × List MemPlace)), xs.length = m → cs.length = m * ts.length →
      (∀ i, i < m → DataW.trod enc P W 0 (fun _ => true) true n e ((cs.drop (i * P.cellsOf e)).take (P.cellsOf e)) = xs[i]?) →
      (∀ x ∈ DataW.weightsAll P e (xs.map (·.1)), x ≤ reachBytes) → ∃ pv, CellsOk (cellsF W) (List.replicate m ts).flatten cs pv
  | 0, cs, xs, hx, hl, _, _ => by
    simp at hl
    subst hl
    exact ⟨[], rfl, rfl, by simp⟩
  | m + 1, cs, xs, hx, hl, hg, hw => by
    cases xs with
    | nil => simp at hx
    | cons x xs =>
      have g0 := hg 0 (by omega)
      simp only [Nat.zero_mul, List.drop_zero, List.getElem?_cons_zero] at g0
      simp only [List.map_cons, DataW.weightsAll, List.mem_append] at hw
      obtain ⟨pv1, c1⟩ := ih _ x.1 x.2 g0 (fun y hy => hw y (.inl hy))
      obtain ⟨pv2, c2⟩ := arr_pv ih hc m (cs.drop ts.length) xs (by simpa using hx) (by rw [List.length_drop, hl, Nat.add_mul]; omega) (fun i hi => by
        have := hg (i + 1) (by omega)
        simp only [List.getElem?_cons_succ] at this
        rw [← this, List.drop_drop]
        congr 3
        rw [Nat.add_mul, hc]; omega) (fun y hy => hw y (.inr hy))
      have e1 : cs = (cs.take (P.cellsOf e)) ++ cs.drop ts.length := by rw [← hc, List.take_append_drop]
      rw [e1, List.replicate_succ, List.flatten_cons]
      exact ⟨pv1 ++ pv2, c1.append c2⟩
theorem choose_list {α : Type} {R : Nat → α → Prop} : ∀ (n : Nat), (∀ i, i < n → ∃ a, R i a) → ∃ l : List α, l.length = n ∧ ∀ i a, l[i]? = some a → R i a
  | 0, _ => ⟨[], rfl, by simp⟩
  | n + 1, h => by
    obtain ⟨l, h1, h2⟩ := choose_list n (fun i hi => h i (by omega))
    obtain ⟨a, ha⟩ := h n (by omega)
    refine ⟨l ++ [a], by simp [h1], fun i b hb => ?_⟩
    rcases get_snoc_cases hb with ⟨_, hb⟩ | ⟨rfl, rfl⟩
    · exact h2 i b hb
    · rw [h1]; exact ha
theorem trod_pv {cut : List TypeId} {N : Nat} (hcut : ∀ e ∈ cut, ∀ Q, ∃ ts, tyT P cut Q N e = some ts ∧ ts.length = P.cellsOf e ∧ 0 < ts.length) : ∀ (fuel : Nat) (Q : TypeId → List PV → Prop) (hQ : Sub2 (RecOk P cut N fuel) Q) (n : Nat) (t : TypeId) (cs : List Value) (d : DataW H) (ps : List MemPlace) (ts : List Cty),
    DataW.trod enc P W 0 (fun _ => true) true fuel t cs = some (d, ps) → tyT P cut Q n t = some ts → (∀ x ∈ d.weights P t, x ≤ reachBytes) → ∃ pv, CellsOk (cellsF W) ts cs pv := by
  intro fuel
  induction fuel with
  | zero => intro Q hQ n t cs d ps ts h; simp [DataW.trod] at h
  | succ fuel ih0 =>
    intro Q hQ n t cs d ps ts h ht hw
    have ih := ih0 Q (fun e x hx => hQ e x (RecOk.mono fuel e x hx))
    cases n with
    | zero => simp [tyT] at ht
    | succ n =>
      simp only [tyT] at ht
      split at ht
      · rename_i hu
        cases ht
        obtain ⟨b, rfl, e⟩ := DataW.trod_bool hu h
        exact ⟨[.bool b], .one ⟨b, rfl⟩ (.bool b)⟩
      · rename_i k hu
        cases ht
        obtain ⟨m, rfl, e, hwf⟩ := DataW.trod_int hu h
        refine ⟨[.int k m], .one ⟨m, rfl, ?_⟩ (.int k m)⟩
        simpa [Lit.wf] using hwf
      · rename_i hu
        cases ht
        obtain ⟨s, rfl, e, hwf⟩ := DataW.trod_string hu h
        cases e
        have := hw s.data.toList.length (by simp [DataW.weights])
        exact ⟨[.str s.data.toList], .one ⟨_, rfl, this⟩ (by have := VP.str (F := cellsF W) s.data.toList; simpa using this)⟩
      · rename_i e hu
        have slc : ∀ (us : List Cty) (c : Cty), us.length = P.cellsOf e → 0 < us.length → (∀ es : List (List PV), es.length * P.bytesOf e ≤ reachBytes → es.length ≤ maxLen → (∀ x ∈ es, okPVs us x) → okPV c (.sl es)) →
            (∀ cs d ps, DataW.trod enc P W 0 (fun _ => true) true fuel e cs = some (d, ps) → (∀ x ∈ d.weights P e, x ≤ reachBytes) → ∃ pv, CellsOk (cellsF W) us cs pv) → ∃ pv, CellsOk (cellsF W) [c] cs pv := by
          intro us c hc1 hc2 hokc ihe
          rcases DataW.trod_slice hu h with ⟨rfl, _⟩ | ⟨a, len, cap, elems, rest, m, hm, rfl, hx, _, hlc, hcm, hel, hg, hsp, _⟩
          · exact ⟨[.sl []], .one (hokc [] (by simp) (by simp) (by simp)) .nils⟩
          · obtain rfl : m = fuel := by omega
            cases hx
            have hwl : (elems.length + rest.length) * P.bytesOf e ≤ reachBytes := hw _ (by simp [DataW.weights, hu])
            have each : ∀ i, i < len → ∃ pv : List PV, okPVs us pv ∧ pv.length = us.length ∧ ∀ (j : Nat) p, pv[j]? = some p → ∃ u, W.cell? ((a.add (i * P.cellsOf e)).add j) = some u ∧ VP (cellsF W) p u := by
              intro i hi
              have := hg i hi
              have hlt : i < elems.length := by omega
              rw [List.getElem?_eq_getElem hlt, Option.bind_eq_some_iff] at this
              obtain ⟨cs', h1, h2⟩ := this
              obtain ⟨pv, c1, c2, c3⟩ := ihe cs' elems[i].1 elems[i].2 (by rw [h2]) (fun x hx => hw x (by
                simp only [DataW.weights, hu, List.mem_cons, List.mem_append]
                exact .inr (.inl (weightsAll_mem (List.mem_map.2 ⟨elems[i], List.getElem_mem _, rfl⟩) hx))))
              refine ⟨pv, c2, okPVs_length c2, fun j p hj => ?_⟩
              obtain ⟨u, hu', hv⟩ := c3 j p hj
              refine ⟨u, ?_, hv⟩
              unfold World.cells? at h1
              split at h1
              · have := mapM_some_get h1 j j (by
                  have := (List.getElem?_eq_some_iff.1 hu').1
                  have := mapM_some_length h1
                  simp at this
                  rw [List.getElem?_range (by omega)])
                rw [this]; exact hu'
              · cases h1
            obtain ⟨es, e1, e2⟩ := choose_list len each
            have hall : ∀ x ∈ es, okPVs us x ∧ x.length = us.length := by
              intro x hx
              obtain ⟨i, hi⟩ := List.getElem?_of_mem hx
              exact ⟨(e2 i x hi).1, (e2 i x hi).2.1⟩
            have hok : okPV c (.sl es) := hokc es (Nat.le_trans (Nat.mul_le_mul_right _ (by omega)) hwl) (by omega) (fun x hx => (hall x hx).1)
            by_cases h0 : len = 0
            · subst h0
              have : es = [] := List.eq_nil_of_length_eq_zero e1
              subst this
              exact ⟨[.sl []], .one hok (.sl0 a cap hcm)⟩
            · have hspot : a.spot = none := by
                obtain ⟨x, hx⟩ : ∃ x, es[0]? = some x := ⟨es[0]'(by omega), by simp [show 0 < es.length by omega]⟩
                obtain ⟨_, hxl, hcell⟩ := e2 0 x hx
                obtain ⟨p, hp⟩ : ∃ p, x[0]? = some p := ⟨x[0]'(by omega), by simp [show 0 < x.length by omega]⟩
                obtain ⟨u, hu', _⟩ := hcell 0 p hp
                simp only [Nat.zero_mul, Addr.add, if_true] at hu'
                unfold World.cell? at hu'
                split at hu'
                · split at hu'
                  · cases hu'
                  · rename_i hs; simpa using hs
                · cases hu'
              obtain ⟨b, off, sp⟩ := a
              simp only at hspot
              subst hspot
              refine ⟨[.sl es], .one hok ?_⟩
              have key : ∀ i j p, at2 es i j = some p → ∃ u, cellsF W b (off + i * us.length + j) = some u ∧ VP (cellsF W) p u := by
                intro i j p hp
                unfold at2 at hp
                rw [Option.bind_eq_some_iff] at hp
                obtain ⟨x, hx, hj⟩ := hp
                obtain ⟨_, _, hcell⟩ := e2 i x hx
                obtain ⟨u, hu', hv⟩ := hcell j p hj
                refine ⟨u, ?_, hv⟩
                rw [Addr.add_lit, Addr.add_lit, ← hc1] at hu'
                exact hu'
              have := VP.mk (F := cellsF W) (es := es) (size := us.length) (b := b) (off := off) (cap := cap) (by omega) hcm (fun x hx => (hall x hx).2) key
              rw [e1] at this
              exact this
        split at ht
        · rename_i hcu
          cases ht
          obtain ⟨us, k1, k2, k3⟩ := hcut e hcu (RecOk P cut N fuel)
          refine slc us _ k2 k3 (fun es h1 h2 h3 => ⟨es, rfl, h1, h2, fun x hx => hQ e x ⟨us, k1, h3 x hx⟩⟩) (fun cs d ps h1 h2 => ih0 (RecOk P cut N fuel) (fun _ _ h => h) N e cs d ps us h1 k1 h2)
        · split at ht
          · rename_i us hus
            split at ht
            · rename_i hc
              cases ht
              exact slc us _ hc.1 hc.2 (fun es h1 h2 h3 => ⟨es, rfl, h1, h2, h3⟩) (fun cs d ps h1 h2 => ih n e cs d ps us h1 hus h2)
            · cases ht
          · cases ht
      · rename_i fs hu
        split at ht
        · rename_i us hus
          split at ht
          · rename_i hc
            rw [← Option.some.inj ht]
            obtain ⟨xs, m, hm, hx, hl, hxl, hg⟩ := DataW.trod_struct hu h
            obtain rfl : m = fuel := by omega
            cases hx
            refine fields_pv (fun t cs d ps ts h1 h2 h3 => ih n t cs d ps ts h1 h2 h3) fs.toList 0 cs xs us hus (by simp [hxl]) (fun i f hf => ?_) (fun x hx => hw x (by simp [DataW.weights, hu, hx])) (by rw [hl, hc])
            simpa using hg i f (by simpa using hf)
          · cases ht
        · cases ht
      · rename_i m e hu
        split at ht
        · rename_i us hus
          split at ht
          · rename_i hc
            cases ht
            obtain ⟨xs, q, hq, hx, hl, hxl, hg⟩ := DataW.trod_array hu h
            obtain rfl : q = fuel := by omega
            cases hx
            exact arr_pv (fun cs d ps h1 h3 => ih n e cs d ps us h1 hus h3) hc.2 m cs xs hxl (by rw [hl, hc.1]) hg (fun x hx => hw x (by simp [DataW.weights, hu, hx]))
          · cases ht
        · cases ht
      · cases ht
def argLV (agg : Bool) (ps : List PV) : LV := if agg then .agg (ps.map .p) else match ps with | [p] => .p p | _ => .und
def tyPs (P : Program) (cut : List TypeId) (Q : TypeId → List PV → Prop) (n : Nat) : List TypeId → Option (List (Bool × List Cty))
  | [] => some []
  | t :: r => match P.underlying t, tyT P cut Q n t, tyPs P cut Q n r with
    | some d, some ts, some l => some ((aggB d, ts) :: l)
    | _, _, _ => none
def OkArgs : List (Bool × List Cty) → List LV → Prop
  | [], l => l = []
  | (agg, ts) :: r, l => ∃ ps m, l = argLV agg ps :: m ∧ okPVs ts ps ∧ OkArgs r m
theorem tyT_one {cut : List TypeId} {Q : TypeId → List PV → Prop} {n : Nat} {t : TypeId} {d : TypeDesc} {ts : List Cty} (hd : P.underlying t = some d) (ha : aggB d = false) (h : tyT P cut Q n t = some ts) : ts.length = 1 := by
  cases n with
  | zero => simp [tyT] at h
  | succ n =>
    simp only [tyT, hd] at h
    cases d <;> simp only [aggB, Bool.true_eq_false] at ha <;> first | (cases h; rfl) | skip
    all_goals
      simp only at h
      first
        | (split at h
           · cases h; rfl
           · split at h
             · split at h
               · cases h; rfl
               · cases h
             · cases h)
        | (split at h
           · split at h
             · cases h; rfl
             · cases h
           · cases h)
        | cases h
theorem tyPs_mono {cut : List TypeId} {Q R : TypeId → List PV → Prop} (hQ : Sub2 Q R) {n : Nat} : ∀ {ts : List TypeId} {a b : List (Bool × List Cty)}, tyPs P cut Q n ts = some a → tyPs P cut R n ts = some b → ∀ vs, OkArgs a vs → OkArgs b vs
  | [], a, b, h, k, vs, hv => by simp only [tyPs] at h k; cases h; cases k; exact hv
  | t :: r, a, b, h, k, vs, hv => by
    simp only [tyPs] at h k
    split at h
    · rename_i d ts l h1 h2 h3
      cases h
      obtain ⟨us, g1, g2⟩ := tyT_mono hQ h2
      split at k
      · rename_i d' ts' l' e1 e2 e3
        rw [h1] at e1; rw [g1] at e2
        cases e1; cases e2; cases k
        obtain ⟨ps, m, rfl, a1, a2⟩ := hv
        exact ⟨ps, m, rfl, g2.2 _ a1, tyPs_mono hQ h3 e3 _ a2⟩
      · cases k
    · cases h
theorem RecOk.le {cut : List TypeId} {N : Nat} : ∀ {k m : Nat}, k ≤ m → Sub2 (RecOk P cut N k) (RecOk P cut N m)
  | k, m, h => by
    induction h with
    | refl => exact fun _ _ h => h
    | step _ ih => exact fun e x hx => RecOk.mono _ e x (ih e x hx)
theorem args_pv {cut : List TypeId} {N : Nat} (hcut : ∀ e ∈ cut, ∀ Q, ∃ ts, tyT P cut Q N e = some ts ∧ ts.length = P.cellsOf e ∧ 0 < ts.length) {n : Nat} {G : Gh} (hG : G.F = cellsF W) : ∀ {ts : List TypeId} {vs : List Value} {ds gs : List (DataW H)} {us : List TypeId} {ps : List MemPlace} {tys : Nat → List (Bool × List Cty)}, DataW.TrodAll enc P W 0 (fun _ => true) true ts vs ds ps → (∀ k, tyPs P cut (RecOk P cut N k) n ts = some (tys k)) →
    (∀ (j : Nat) t v, ts[j]? = some t → vs[j]? = some v → Value.okWide P W .any 0 t v ∨ ∃ base, Value.okWide P W .any base t v) → (∀ x ∈ DataW.weightsEach P (ts ++ us) (ds ++ gs), x ≤ reachBytes) →
    ∃ k, ∃ args, OkArgs (tys k) args ∧ args.length = vs.length ∧ ∀ (i : Nat) x u, args[i]? = some x → vs[i]? = some u → VL G x u
  | [], vs, ds, gs, us, ps, tys, h, ht, _, _ => by
    have := ht 0
    simp only [tyPs, Option.some.injEq] at this
    obtain ⟨rfl, _, _⟩ := ChangeShapes.trodAll_nil h
    exact ⟨0, [], by rw [← this]; rfl, rfl, by simp⟩
  | t :: ts, vs, ds, gs, us, ps, tys, h, ht, hok, hw => by
    have hk : ∀ k, ∃ dd tt ll, P.underlying t = some dd ∧ tyT P cut (RecOk P cut N k) n t = some tt ∧ tyPs P cut (RecOk P cut N k) n ts = some ll ∧ tys k = (aggB dd, tt) :: ll := by
      intro k
      have := ht k
      simp only [tyPs] at this
      split at this
      · rename_i dd tt ll h1 h2 h3
        exact ⟨dd, tt, ll, h1, h2, h3, (Option.some.inj this).symm⟩
      · cases this
    have hl' : ∀ k, tyPs P cut (RecOk P cut N k) n ts = some ((tyPs P cut (RecOk P cut N k) n ts).getD []) := by
      intro k
      obtain ⟨dd, tt, ll, _, _, h3, _⟩ := hk k
      rw [h3]; rfl
    · obtain ⟨v, vs', d, ds', p, q, rfl, rfl, rfl, ⟨fuel, h1⟩, h2⟩ := ChangeShapes.trodAll_cons h
      simp only [List.cons_append, DataW.weightsEach, List.mem_append] at hw
      obtain ⟨dd, tt, ll0, hd, htt, _, _⟩ := hk fuel
      obtain ⟨pv, c1, c2, c3⟩ := trod_pv hcut fuel _ (fun _ _ h => h) n t _ d p tt h1 htt (fun x hx => hw x (.inl hx))
      obtain ⟨k', args, a1, a2, a3⟩ := args_pv hcut (n := n) hG h2 (tys := fun k => (tyPs P cut (RecOk P cut N k) n ts).getD []) hl' (fun j t v hj hv => hok (j + 1) t v (by simpa using hj) (by simpa using hv)) (fun x hx => hw x (.inr hx))
      have hv : VL G (argLV (aggB dd) pv) v := by
        have hlen := okPVs_length c2
        obtain ⟨base, hk⟩ : ∃ base, Value.okWide P W .any base t v := by
          rcases hok 0 t v rfl rfl with h | h
          · exact ⟨0, h⟩
          · exact h
        unfold argLV
        split
        · rename_i ha
          have : ∃ arr, v = .agg arr := by
            unfold Value.okWide at hk
            rw [hd] at hk
            cases dd <;> simp [aggB] at ha
            all_goals exact ⟨_, hk.choose_spec.1⟩
          obtain ⟨arr, rfl⟩ := this
          simp only [Value.cells] at c1 c3
          refine .agg arr (by simpa using c1) (fun i u hu => ?_) (fun i x hx => ?_)
          · have hlt : i < pv.length := by rw [← c1]; simpa using (Array.getElem?_eq_some_iff.1 hu).1
            obtain ⟨u', hu', hvp⟩ := c3 i pv[i] (by simp [hlt])
            rw [Array.getElem?_toList, hu] at hu'
            cases hu'
            exact hvp.one
          · rw [List.getElem?_map] at hx
            cases hq : pv[i]? with
            | none => simp [hq] at hx
            | some y =>
              simp [hq] at hx; subst hx
              obtain ⟨u', hu', hvp⟩ := c3 i y hq
              rw [Array.getElem?_toList] at hu'
              rw [Array.getD_eq_getD_getElem?, hu']
              rw [← hG] at hvp
              exact .p hvp
        · rename_i ha
          have h1 := tyT_one hd (by simpa using ha) htt
          have hna : ∀ arr, v ≠ .agg arr := by
            rintro arr rfl
            unfold Value.okWide at hk
            rw [hd] at hk
            cases dd <;> simp [aggB] at ha <;> simp [Cell.okWide, Cell.ok, hd] at hk
          obtain ⟨y, rfl⟩ := List.length_eq_one_iff.1 (hlen.trans h1)
          · obtain ⟨u', hu', hvp⟩ := c3 0 y rfl
            have : v.cells = #[v] := by cases v <;> first | rfl | exact absurd rfl (hna _)
            rw [this] at hu'
            simp at hu'
            subst hu'
            rw [← hG] at hvp
            exact .p hvp
      obtain ⟨dd2, tt2, ll2, q1, q2, q3, q4⟩ := hk (max fuel k')
      have hdd : dd2 = dd := by rw [hd] at q1; exact (Option.some.inj q1).symm
      subst hdd
      obtain ⟨us2, g1, g2⟩ := tyT_mono (RecOk.le (P := P) (cut := cut) (N := N) (Nat.le_max_left fuel k')) htt
      rw [q2] at g1
      cases g1
      have a1' := tyPs_mono (RecOk.le (P := P) (cut := cut) (N := N) (Nat.le_max_right fuel k')) (hl' k') q3 _ a1
      refine ⟨max fuel k', argLV (aggB dd2) pv :: args, by rw [q4]; exact ⟨pv, args, rfl, g2.2 _ c2, a1'⟩, by simp [a2], fun i x u hx hu => ?_⟩
      cases i with
      | zero => simp at hx hu; subst hx; subst hu; exact hv
      | succ i => exact a3 i x u (by simpa using hx) (by simpa using hu)
end
end Go.LS
namespace Go.LS
def gh0 (w : World) : Gh := ⟨cellsF w, fun _ => none, fun _ _ => none⟩
theorem wr0 (w : World) : WR (gh0 w) [] w where
  fr _ _ _ h := h
  dom _ _ := ⟨rfl, fun _ => rfl⟩
  row o es h := by simp at h
  map o es h := by simp at h
  iter o s p h := by simp at h
  spare o n hw h := by simp at h
  uniq o o' b h := by simp [Owns] at h
  ownF o b h := by simp [Owns] at h
  kind o x h := by simp at h
theorem Ext0.below {G G' : Gh} {st' : List LObj} {w w' : World} (h : Ext0 G [] w G' st' w') : RowKit.Below w.heap.size w w' :=
  ⟨h.os, h.tape, h.output, h.hsz, fun k hk => h.unch k hk (fun o ho => by simp [Owns] at ho)⟩
theorem trodAll_stays {H : Type} {enc : TypeId × Value → H} {P : Program} (hl : laidOutB P = true) {W W' : World} (hb : RowKit.Below W.heap.size W W') :
    ∀ {ts : List TypeId} {vs : List Value} {ds : List (DataW H)} {ps : List MemPlace}, (∀ t ∈ ts, P.readableRec t = true ∧ t < P.types.size) → DataW.TrodAll enc P W 0 (fun _ => true) true ts vs ds ps →
      DataW.TrodAll enc P W' 0 (fun b => decide (b < W.heap.size)) true ts vs ds ps
  | [], vs, ds, ps, _, h => by
    obtain ⟨rfl, rfl, rfl⟩ := ChangeShapes.trodAll_nil h
    rfl
  | t :: ts, vs, ds, ps, ht, h => by
    obtain ⟨v, vs', d, ds', p, q, rfl, rfl, rfl, h1, h2⟩ := ChangeShapes.trodAll_cons h
    refine ⟨p, q, ?_, trodAll_stays hl hb (fun t hm => ht t (by simp [hm])) h2, rfl⟩
    exact RowKit.Below.trod hl (ht t (by simp)).1 (ht t (by simp)).2 h1 hb (fun x hx => by
      obtain ⟨m, hm⟩ := h1
      exact DataW.trod_lt m _ _ _ hm x hx)
theorem trodAll_len {H : Type} {enc : TypeId × Value → H} {P : Program} {W : World} : ∀ {ts : List TypeId} {vs : List Value} {ds : List (DataW H)} {ps : List MemPlace}, DataW.TrodAll enc P W 0 (fun _ => true) true ts vs ds ps → ds.length = vs.length
  | [], vs, ds, ps, h => by
    obtain ⟨rfl, rfl, _⟩ := ChangeShapes.trodAll_nil h
    rfl
  | t :: ts, vs, ds, ps, h => by
    obtain ⟨v, vs', d, ds', p, q, rfl, rfl, rfl, _, h2⟩ := ChangeShapes.trodAll_cons h
    simp [trodAll_len h2]
theorem law_contract {H : Type} {enc : TypeId × Value → H} {P : Program} {lp : LProg} (hp : PR P lp) (hl : laidOutB P = true) {f : FuncId} {fn : Func} {s : ChangeSpec} {tb : TypeId} {cut : List TypeId} {N n : Nat} {tys : Nat → List (Bool × List Cty)}
    (hcut : ∀ e ∈ cut, ∀ Q, ∃ ts, tyT P cut Q N e = some ts ∧ ts.length = P.cellsOf e ∧ 0 < ts.length)
    (hps : fn.params.toList.all (fun t => P.readableRec t && decide (t < P.types.size)) = true) (hres : fn.resultTypes = #[tb]) (htb : P.underlying tb = some .bool)
    (ht : ∀ k, tyPs P cut (RecOk P cut N k) n fn.params.toList = some (tys k)) (hv : s.vars = []) (hsz : ∀ k, ∀ vs : List LV, OkArgs (tys k) vs → vs.length = fn.params.size)
    (hs : ∀ ds : List (DataW H), ds.length = fn.params.size → s.fn H ds = { results := [.lit (.bool true)], args := ds, vars := [] })
    (W : World) (base : Nat) (args : Array Value) (ds gs : List (DataW H)) (before : List MemPlace)
    (hrun : ∀ j vs, OkArgs (tys j) vs → ∃ k st', runF lp k f vs [] = some (.p (.bool true), st'))
    (hval : ∀ (j : Nat) t v, fn.params[j]? = some t → args[j]? = some v → Value.okWide P W .any base t v)
    (hW : DataW.Whole enc P fn.params.toList s.vars false W args.toList ds gs before)
    (hw : (DataW.weightsEach P (fn.params.toList ++ s.plain.varTypes P) (ds ++ gs)).all (· ≤ reachBytes) = true) :
    Calls P f args W fun e W' => ∃ v, e = .returned v ∧ s.post enc P fn false true false false W args v W' := by
  have hW' := hW
  obtain ⟨p, q, hA, hV, rfl, hfz, _⟩ := hW
  rw [hv] at hV
  obtain ⟨rfl, rfl⟩ := ChangeShapes.trodVars_none hV
  have hwx : ∀ x ∈ DataW.weightsEach P (fn.params.toList ++ s.plain.varTypes P) (ds ++ []), x ≤ reachBytes := fun x hx => by simpa using List.all_eq_true.1 hw x hx
  obtain ⟨j0, vs, a1, a2, a3⟩ := args_pv (G := gh0 W) hcut rfl hA ht (fun j t v hj hv' => .inr ⟨base, hval j t v (by simpa using hj) (by simpa using hv')⟩) hwx
  obtain ⟨k, st', hr⟩ := hrun j0 vs a1
  obtain ⟨_, hcall⟩ := runF_sound hp k f vs [] _ _ hr
  refine (hcall (gh0 W) W args (wr0 W) ⟨by simpa using a2.symm, fun i x hx => ?_⟩).mono ?_
  · have hlt : i < args.size := by have := (List.getElem?_eq_some_iff.1 hx).1; rw [a2] at this; simpa using this
    have := a3 i x args[i] hx (by simp [hlt])
    rw [Array.getD_eq_getD_getElem?, Array.getElem?_eq_getElem hlt]
    exact this
  · rintro e W' ⟨u, G', rfl, _, hu, hx⟩
    have hub := hu.bool_inv
    subst hub
    have bel := hx.below
    have hdl : ds.length = fn.params.size := by
      rw [← hsz j0 vs a1, a2]
      exact trodAll_len hA
    refine ⟨_, rfl, ds, [], _, [], p, [], hW', ?_, ?_, ?_, bel.frame _, fun h => by cases h⟩
    · rw [List.append_nil, hs ds hdl, hres]
      exact ChangeShapes.trodAll_mk1 ⟨1, by simp [DataW.trod, htb, Value.cells]⟩
    · rw [List.append_nil, hs ds hdl]
      refine trodAll_stays hl bel (fun t hm => ?_) hA
      have := List.all_eq_true.1 hps t hm
      simpa using this
    · rw [List.append_nil, hs ds hdl, hv]
      rfl
end Go.LS
namespace Go.LS
theorem OkArgs.length : ∀ {tys : List (Bool × List Cty)} {vs : List LV}, OkArgs tys vs → vs.length = tys.length
  | [], vs, h => by cases h; rfl
  | (a, t) :: r, vs, h => by
    obtain ⟨ps, m, rfl, _, h2⟩ := h
    simp [h2.length]
end Go.LS
set_option linter.unusedVariables false
set_option linter.unusedSimpArgs false
namespace Go.LS
theorem opIs_appTE {size bytes : Nat} {E X : List (List PV)} {st : List LObj} {x : LV} (hx : appended false st x = some X) (hE : sized size E = true) (hX : sized size X = true) (hne : X ≠ [])
    (hb : (E.length + X.length) * bytes ≤ 140737488355328) (hm : E.length + X.length ≤ 9223372036854775807) (h0 : 0 < size) :
    opStep noCall [] st (.append false size bytes (.const (.tight E)) (.const x)) = some (.sl (E ++ X) st.length (E ++ X).length, st ++ [.spare size (E ++ X).length]) := by
  have : X.isEmpty = false := by cases X <;> simp_all
  refine orA_of ?_
  simp [LX.ev, lappend, hx, hX, hE, this, roomy_of hb, maxLen, hm, h0]
theorem opIs_appSE {size bytes tg : Nat} {E X : List (List PV)} {st : List LObj} {x : LV} (hs : st[tg]? = some (.spare size E.length)) (hx : appended false st x = some X) (hX : sized size X = true)
    (hb : (E.length + X.length) * bytes ≤ 140737488355328) (hm : E.length + X.length ≤ 9223372036854775807) (h0 : 0 < size) :
    opStep noCall [] st (.append false size bytes (.const (.sl E tg E.length)) (.const x)) = some (.sl (E ++ X) tg (E ++ X).length, st.set tg (.spare size (E ++ X).length)) := by
  by_cases hM : X = []
  · subst hM
    refine orA_of ?_
    simp [LX.ev, lappend, hx, hX, hs]
    obtain ⟨h1, h2⟩ := List.getElem?_eq_some_iff.1 hs
    conv => rhs; rw [← h2]
    simp
  · have : X.isEmpty = false := by cases X <;> simp_all
    refine orA_of ?_
    simp [LX.ev, lappend, hx, hX, hs, this, roomy_of hb, maxLen, hm, h0, hM]
theorem opIs_nileq {neg : Bool} {L : List UInt8} {st : List LObj} (h : L ≠ []) :
    opStep noCall [] st (.nileq neg .slice (.const (.p (.sl (bs L))))) = some (.p (.bool neg), st) := by
  cases L with
  | nil => exact (h rfl).elim
  | cons c r => simp [opStep, LX.ev, LV.nilq, bs]
theorem opIs_sidxD {M : List UInt8} {i : Nat} {st : List LObj} (h : i < M.length) :
    opStep noCall [] st (.index (.const (.p (.str M))) (.const (.p (.int .i64 ((i : Nat) : Int))))) = some (.p (.int .u8 ((M.getD i 0).toNat : Int)), st) := by
  simp [opStep, LX.ev, LV.asInt, h]
end Go.LS
namespace Go.LS
theorem okArg {agg : Bool} {ts : List Cty} {r : List (Bool × List Cty)} {l : List LV} (h : OkArgs ((agg, ts) :: r) l) : ∃ ps m, l = argLV agg ps :: m ∧ okPVs ts ps ∧ OkArgs r m := h
theorem okEnd {l : List LV} (h : OkArgs [] l) : l = [] := h
theorem okSl {u : List Cty} {b : Nat} {ts : List Cty} {ps : List PV} (h : okPVs (.sl u b :: ts) ps) : ∃ n r, ps = .sl n :: r ∧ (n.length * b ≤ reachBytes ∧ n.length ≤ maxLen ∧ ∀ e ∈ n, okPVs u e) ∧ okPVs ts r := by
  obtain ⟨_, r, rfl, ⟨n, rfl, h1⟩, h2⟩ := h
  exact ⟨n, r, rfl, h1, h2⟩
theorem okNil {ps : List PV} (h : okPVs [] ps) : ps = [] := h
end Go.LS
set_option linter.unusedVariables false
namespace Go.LS
def foldE {α σ ρ : Type} (f : σ → α → ρ ⊕ σ) (e : σ → ρ) : σ → List α → ρ
  | s, [] => e s
  | s, x :: r => match f s x with
    | .inl y => y
    | .inr s' => foldE f e s' r
theorem drop_get {α : Type} {xs : List α} {i : Nat} {x : α} (h : xs[i]? = some x) : xs.drop i = x :: xs.drop (i + 1) := by
  obtain ⟨hi, rfl⟩ := List.getElem?_eq_some_iff.1 h
  exact List.drop_eq_getElem_cons hi
theorem loop_fold {α σ : Type} {lp : LProg} {k : Nat} {L : List Bool × LCode} (T : Nat → σ → List LV) (S : Nat → σ → List LObj) (xs : List α) (f : σ → α → (LOut × List LV × List LObj) ⊕ σ) (e : σ → LOut × List LV × List LObj) (Inv : Nat → σ → Prop)
    (hs : ∀ i s x, xs[i]? = some x → Inv i s → (∀ r, f s x = .inl r → LoopN lp k L (T i s) (S i s) r) ∧ ∀ s', f s x = .inr s' → Inv (i + 1) s' ∧ ∀ r, LoopN lp k L (T (i + 1) s') (S (i + 1) s') r → LoopN lp k L (T i s) (S i s) r)
    (he : ∀ s, Inv xs.length s → LoopN lp k L (T xs.length s) (S xs.length s) (e s)) (s0 : σ) (h0 : Inv 0 s0) : LoopN lp k L (T 0 s0) (S 0 s0) (foldE f e s0 xs) := by
  have key : ∀ n i s, n + i = xs.length → Inv i s → LoopN lp k L (T i s) (S i s) (foldE f e s (xs.drop i)) := by
    intro n
    induction n with
    | zero =>
      intro i s h hi
      obtain rfl : i = xs.length := by omega
      rw [List.drop_length]
      exact he s hi
    | succ n ih =>
      intro i s h hi
      have hx : xs[i]? = some (xs[i]'(by omega)) := List.getElem?_eq_getElem (by omega)
      rw [drop_get hx]
      obtain ⟨h1, h2⟩ := hs i s _ hx hi
      simp only [foldE]
      cases hf : f s (xs[i]'(by omega)) with
      | inl r => exact h1 r hf
      | inr s' =>
        obtain ⟨h3, h4⟩ := h2 s' hf
        exact h4 _ (ih (i + 1) s' (by omega) h3)
  have := key xs.length 0 s0 (by omega) h0
  rwa [List.drop_zero] at this
theorem loop_all {α : Type} {lp : LProg} {k : Nat} {L : List Bool × LCode} (T : Nat → List LV) (S : List LObj) (xs : List α) (p : α → Bool) {rF rT : LOut × List LV × List LObj}
    (hF : ∀ i x, xs[i]? = some x → p x = false → LoopN lp k L (T i) S rF) (hS : ∀ i x r, xs[i]? = some x → p x = true → LoopN lp k L (T (i + 1)) S r → LoopN lp k L (T i) S r)
    (hE : LoopN lp k L (T xs.length) S rT) : LoopN lp k L (T 0) S (if xs.all p = true then rT else rF) := by
  have := loop_fold (σ := Unit) (fun i _ => T i) (fun _ _ => S) xs (fun _ x => if p x = true then .inr () else .inl rF) (fun _ => rT) (fun _ _ => True)
    (fun i s x hx _ => by
      cases hp : p x with
      | true => simp only [if_true]; exact ⟨fun r h => (by cases h), fun s' _ => ⟨trivial, fun r hr => hS i x r hx hp hr⟩⟩
      | false => simp only [Bool.false_eq_true, if_false]; exact ⟨fun r h => (by cases h; exact hF i x hx hp), fun s' h => (by cases h)⟩)
    (fun _ _ => hE) () trivial
  have e : ∀ l : List α, foldE (fun (_ : Unit) x => if p x = true then (.inr () : (LOut × List LV × List LObj) ⊕ Unit) else .inl rF) (fun _ => rT) () l = if l.all p = true then rT else rF := by
    intro l
    induction l with
    | nil => rfl
    | cons x r ih =>
      have e1 : (x :: r).all p = (p x && r.all p) := rfl
      simp only [foldE, e1]
      by_cases hp : p x = true
      · simp only [hp, if_true, Bool.true_and]; exact ih
      · simp only [hp, Bool.false_and, Bool.false_eq_true, if_false]
  rw [e] at this
  exact this
theorem loop_each {α σ : Type} {lp : LProg} {k : Nat} {L : List Bool × LCode} (T : Nat → σ → List LV) (S : Nat → σ → List LObj) (xs : List α) (f : σ → α → σ) (e : σ → LOut × List LV × List LObj) (Inv : Nat → σ → Prop)
    (hS : ∀ i s x r, xs[i]? = some x → Inv i s → Inv (i + 1) (f s x) ∧ (LoopN lp k L (T (i + 1) (f s x)) (S (i + 1) (f s x)) r → LoopN lp k L (T i s) (S i s) r))
    (hE : ∀ s, Inv xs.length s → LoopN lp k L (T xs.length s) (S xs.length s) (e s)) (s0 : σ) (h0 : Inv 0 s0) : LoopN lp k L (T 0 s0) (S 0 s0) (e (xs.foldl f s0)) := by
  have := loop_fold T S xs (fun s x => .inr (f s x)) e Inv (fun i s x hx hi => ⟨fun r h => (by cases h), fun s' h => (by cases h; exact ⟨(hS i s x (e s) hx hi).1, fun r hr => (hS i s x r hx hi).2 hr⟩)⟩) hE s0 h0
  have e2 : ∀ (l : List α) s, foldE (fun s x => (.inr (f s x) : (LOut × List LV × List LObj) ⊕ σ)) e s l = e (l.foldl f s) := by
    intro l
    induction l with
    | nil => intro s; rfl
    | cons x r ih => intro s; simp only [foldE, List.foldl_cons]; exact ih _
  rw [e2] at this
  exact this
theorem LoopAt.onG {lp : LProg} {N k : Nat} {mask : List Bool} {c : LCode} {t t1 t2 t3 : List LV} {st st1 st3 : List LObj} {os os' : Os} {ps : List Prop} {r : LOut × List LV × List LObj}
    (h : execO lp k N c t st os = some (.normal, t1, st1, ps, os')) (hk : kill mask t1 = t2) (hg : gc k t2 st1 = some (t3, st3)) (hp : Conj ps) (hr : LoopAt lp k mask c t3 st3 r) : LoopAt lp k mask c t st r := by
  refine LoopAt.on (N := N) (os := os) (ps := ps) (t' := t3) (st' := st3) ?_ hp hr
  unfold roundO
  rw [h]
  simp only [hk, hg]
theorem nx {i : Nat} (h : i ≤ 1000000000000000) : IntKind.wrap .i64 ((i : Int) + 1) = ((i + 1 : Nat) : Int) := by
  rw [wrap_i64 (by omega) (by omega)]; rfl
theorem wrap_add (a b : Int) : IntKind.wrap .i64 (IntKind.wrap .i64 a + b) = IntKind.wrap .i64 (a + b) := by
  simp only [IntKind.wrap, IntKind.bits, IntKind.signed]
  simp
  omega
theorem wrap_add' (a b : Int) : IntKind.wrap .i64 (a + IntKind.wrap .i64 b) = IntKind.wrap .i64 (a + b) := by
  rw [Int.add_comm, wrap_add, Int.add_comm]
end Go.LS
set_option linter.unusedVariables false
set_option linter.unusedSimpArgs false
namespace Go.LS
inductive Val where
  | mk (kind int : Int) (text : List UInt8) (items : List Val) (names : List (List UInt8))
  deriving Inhabited
def rowsN (ns : List (List UInt8)) : List (List PV) := ns.map fun x => [.str x]
mutual
def rowV : Val → List PV
  | .mk k n s is ns => [.int .i64 k, .int .i64 n, .str s, .sl (rowsV is), .sl (rowsN ns)]
def rowsV : List Val → List (List PV)
  | [] => []
  | v :: r => rowV v :: rowsV r
end
abbrev encV : Val → LV
  | .mk k n s is ns => .agg [.p (.int .i64 k), .p (.int .i64 n), .p (.str s), .p (.sl (rowsV is)), .p (.sl (rowsN ns))]
theorem rowsV_map : ∀ (l : List Val), rowsV l = l.map rowV
  | [] => rfl
  | v :: r => by rw [rowsV, rowsV_map r]; rfl
theorem rowsV_len (l : List Val) : (rowsV l).length = l.length := by rw [rowsV_map, List.length_map]
theorem rowsN_len (l : List (List UInt8)) : (rowsN l).length = l.length := by simp [rowsN]
theorem rowsV_get {l : List Val} {i : Nat} {v : Val} (h : l[i]? = some v) : (rowsV l)[i]? = some (rowV v) := by rw [rowsV_map, List.getElem?_map, h]; rfl
theorem rowsN_get {l : List (List UInt8)} {i : Nat} (h : i < l.length) : (rowsN l)[i]? = some [.str (l.getD i [])] := by
  simp [rowsN, h]
theorem Val.ind {P : Val → Prop} (h : ∀ k n s is ns, (∀ v ∈ is, P v) → P (.mk k n s is ns)) : ∀ v, P v
  | .mk k n s is ns => h k n s is ns fun v hv => Val.ind h v
def nameB (s : List UInt8) : Bool := !(s.contains 46) && decide (1 ≤ s.length) && decide (s.length ≤ 32) && !(s.headD 0 == 36)
def twiceB : List (List UInt8) → Bool
  | [] => false
  | x :: r => r.contains x || twiceB r
def shapeB (k n : Int) (s : List UInt8) (l : Nat) (ns : List (List UInt8)) : Bool :=
  if k == 1 then n == 0 && s == [] && decide (l = 0) && decide (ns.length = 0)
  else if k == 2 then (decide (0 ≤ n) && decide (n ≤ 1)) && s == [] && decide (l = 0) && decide (ns.length = 0)
  else if k == 3 then s == [] && decide (l = 0) && decide (ns.length = 0)
  else if k == 4 || k == 5 then n == 0 && decide (l = 0) && decide (ns.length = 0)
  else if k == 6 then n == 0 && s == [] && decide (ns.length = 0)
  else if k == 7 then n == 0 && s == [] && decide (ns.length = l) && !twiceB ns
  else false
def okNamesB (ns : List (List UInt8)) : Bool := ns.all nameB && !twiceB ns
mutual
def mayV : Val → Bool
  | .mk k n s is ns => mayL is && ns.all nameB && shapeB k n s is.length ns
def mayL : List Val → Bool
  | [] => true
  | v :: r => mayV v && mayL r
end
mutual
def depthV : Val → Int
  | .mk _ _ _ is _ => depthL is + 1
def depthL : List Val → Int
  | [] => 0
  | v :: r => max (depthV v) (depthL r)
end
theorem mayL_all : ∀ (l : List Val), mayL l = l.all mayV
  | [] => rfl
  | v :: r => by rw [mayL, mayL_all r]; rfl
def zzN (x : Int) : Nat := if 0 ≤ x then (2 * x).toNat else (-(2 * x) - 1).toNat
def clenN (n : Nat) : Int := ((vcode n).length : Int)
def tlenN (s : List UInt8) : Int := ((vcode s.length).length : Int) + s.length
mutual
def sizeV : Val → Int
  | .mk k n s is ns => if k == 2 then 2 else if k == 3 then 1 + ((vcode (zzN n)).length : Int) else if k == 4 || k == 5 then 1 + tlenN s
    else if k == 6 then 1 + clenN is.length + sizeL is else if k == 7 then 1 + clenN is.length + sizeL is + (ns.map tlenN).sum else 1
def sizeL : List Val → Int
  | [] => 0
  | v :: r => sizeV v + sizeL r
end
def sizeW (v : Val) : Int := IntKind.wrap .i64 (sizeV v)
mutual
def nodesV : Int → Val → Int
  | d, .mk _ _ _ is ns => if d > 40 then 1048576 else nodesL (IntKind.wrap .i64 (d + 1)) (IntKind.wrap .i64 (1 + (ns.length : Int))) is
def nodesL : Int → Int → List Val → Int
  | _, m, [] => m
  | d, m, v :: r => if m < 65536 then nodesL d (IntKind.wrap .i64 (m + nodesV d v)) r else m
end
def largeV (v : Val) : Bool := decide (nodesV 0 v > 3000)
mutual
def sameV : Val → Val → Bool
  | .mk k n s is ns, .mk k' n' s' is' ns' => (k == k') && (n == n') && (s == s') && sameL is is' && (ns == ns')
def sameL : List Val → List Val → Bool
  | [], [] => true
  | v :: r, v' :: r' => sameV v v' && sameL r r'
  | _, _ => false
end
def ordI (a b : Int) : Int := if a < b then -1 else if a > b then 1 else 0
def ordS (a b : List UInt8) : Int := if Op.bytesLess a b = true then -1 else if (!(Op.bytesLess a b || a == b)) = true then 1 else 0
mutual
def cmpV : Val → Val → Int
  | .mk k n s is ns, .mk k' n' s' is' ns' => if ordI k k' ≠ 0 then ordI k k' else if ordI n n' ≠ 0 then ordI n n' else if ordS s s' ≠ 0 then ordS s s' else
    match cmpL (k == 7) is is' ns ns' with
    | some c => c
    | none => ordI is.length is'.length
def cmpL : Bool → List Val → List Val → List (List UInt8) → List (List UInt8) → Option Int
  | d, v :: r, w :: q, ns, ms => if d = true ∧ ordS (ns.headD []) (ms.headD []) ≠ 0 then some (ordS (ns.headD []) (ms.headD [])) else
    if cmpV v w ≠ 0 then some (cmpV v w) else cmpL d r q ns.tail ms.tail
  | _, _, _, _, _ => none
end
def checkV (v : Val) : Int := if mayV v = true then (if depthV v > 8 then 21 else if sizeW v > 4096 then 22 else 0) else 20
mutual
def okV : Val → Prop
  | .mk k n s is ns => (-9223372036854775808 ≤ k ∧ k ≤ 9223372036854775807) ∧ (-9223372036854775808 ≤ n ∧ n ≤ 9223372036854775807) ∧ s.length ≤ 140737488351232 ∧ is.length * 80 ≤ 140737488355328 ∧ ns.length * 16 ≤ 140737488355328 ∧ (∀ x ∈ ns, x.length ≤ 140737488351232) ∧ okL is
def okL : List Val → Prop
  | [] => True
  | v :: r => okV v ∧ okL r
end
theorem okL_all : ∀ {l : List Val}, okL l ↔ ∀ v ∈ l, okV v
  | [] => by simp [okL]
  | v :: r => by rw [okL, okL_all (l := r)]; simp
theorem okNames : ∀ {es : List (List PV)}, (∀ e ∈ es, okPVs [.str] e) → ∃ ns : List (List UInt8), es = rowsN ns ∧ ∀ x ∈ ns, x.length ≤ 140737488351232
  | [], _ => ⟨[], rfl, by simp⟩
  | e :: r, h => by
    obtain ⟨ns, rfl, hn⟩ := okNames (es := r) (fun x hx => h x (List.mem_cons_of_mem _ hx))
    obtain ⟨_, _, rfl, ⟨s, rfl, hs⟩, rfl⟩ := h e (List.mem_cons_self ..)
    refine ⟨s :: ns, rfl, fun x hx => ?_⟩
    rcases List.mem_cons.1 hx with rfl | hx
    · simp [reachBytes] at hs; omega
    · exact hn x hx
theorem okVal1 {Q : List PV → Prop} (hQ : ∀ {es : List (List PV)}, (∀ e ∈ es, Q e) → ∃ l : List Val, es = rowsV l ∧ okL l) {e : List PV}
    (h : okPVs [.int .i64, .int .i64, .str, .pr Q 80, .sl [.str] 16] e) : ∃ v : Val, e = rowV v ∧ okV v := by
  obtain ⟨_, _, rfl, ⟨a, rfl, a0, a1⟩, _, _, rfl, ⟨b, rfl, b0, b1⟩, _, _, rfl, ⟨s, rfl, hs⟩, _, _, rfl, ⟨es, rfl, e1, -, e3⟩, _, _, rfl, ⟨ns, rfl, n1, -, n3⟩, rfl⟩ := h
  obtain ⟨l, rfl, hl⟩ := hQ e3
  obtain ⟨m, rfl, hm⟩ := okNames n3
  refine ⟨.mk a b s l m, rfl, ⟨⟨a0, a1⟩, ⟨b0, b1⟩, ?_, ?_, ?_, hm, hl⟩⟩
  · simp [reachBytes] at hs; omega
  · rw [rowsV_len] at e1; simp [reachBytes] at e1; omega
  · rw [rowsN_len] at n1; simp [reachBytes] at n1; omega
theorem okVals {P : Program} {cut : List TypeId} {N : Nat} {T : TypeId} (hT : ∀ Q, tyT P cut Q N T = some [.int .i64, .int .i64, .str, .pr (Q T) 80, .sl [.str] 16]) :
    ∀ (k : Nat) {es : List (List PV)}, (∀ e ∈ es, RecOk P cut N k T e) → ∃ l : List Val, es = rowsV l ∧ okL l := by
  intro k
  induction k with
  | zero =>
    intro es h
    cases es with
    | nil => exact ⟨[], rfl, trivial⟩
    | cons e r => exact (h e (List.mem_cons_self ..)).elim
  | succ k ih =>
    intro es
    induction es with
    | nil => exact fun _ => ⟨[], rfl, trivial⟩
    | cons e r ihr =>
      intro h
      obtain ⟨l, rfl, hl⟩ := ihr fun x hx => h x (List.mem_cons_of_mem _ hx)
      obtain ⟨ts, h1, h2⟩ := h e (List.mem_cons_self ..)
      rw [hT] at h1
      cases h1
      obtain ⟨v, rfl, hv⟩ := okVal1 (fun h => ih h) h2
      exact ⟨v :: l, rfl, hv, hl⟩
theorem rowsV_append (a b : List Val) : rowsV (a ++ b) = rowsV a ++ rowsV b := by simp [rowsV_map]
theorem rowsN_sized (l : List (List UInt8)) : sized 1 (rowsN l) = true := by
  simp only [sized, List.all_eq_true, rowsN, List.mem_map]
  rintro _ ⟨v, _, rfl⟩
  rfl
theorem opIs_appVS {tg : Nat} {es : List Val} {k n : Int} {s : List UInt8} {is : List Val} {ns : List (List UInt8)} {st : List LObj} (hs : st[tg]? = some (.spare 5 (List.length (rowsV es)))) (hb : (es.length + 1) * 80 ≤ 140737488355328) :
    opStep noCall [] st (.append false 5 80 (.const (.sl (rowsV es) tg (List.length (rowsV es)))) (.const (.tight [[.int .i64 k, .int .i64 n, .str s, .sl (rowsV is), .sl (rowsN ns)]]))) =
      some (.sl (rowsV (es ++ [.mk k n s is ns])) tg (List.length (rowsV (es ++ [.mk k n s is ns]))), st.set tg (.spare 5 (List.length (rowsV (es ++ [.mk k n s is ns]))))) := by
  have := opIs_appSE (size := 5) (bytes := 80) (tg := tg) (E := rowsV es) (X := [[.int .i64 k, .int .i64 n, .str s, .sl (rowsV is), .sl (rowsN ns)]]) (st := st) (x := .tight [[.int .i64 k, .int .i64 n, .str s, .sl (rowsV is), .sl (rowsN ns)]]) hs rfl rfl
    (by rw [rowsV_len]; exact hb) (by rw [rowsV_len]; simp; omega) (by decide)
  rw [this, rowsV_append]
  rfl
theorem opIs_appVT {k n : Int} {s : List UInt8} {is : List Val} {ns : List (List UInt8)} {st : List LObj} :
    opStep noCall [] st (.append false 5 80 (.const (.tight [])) (.const (.tight [[.int .i64 k, .int .i64 n, .str s, .sl (rowsV is), .sl (rowsN ns)]]))) =
      some (.sl (rowsV [.mk k n s is ns]) st.length (List.length (rowsV [.mk k n s is ns])), st ++ [.spare 5 (List.length (rowsV [.mk k n s is ns]))]) := by
  exact opIs_appTE (size := 5) (bytes := 80) (E := []) (X := [[.int .i64 k, .int .i64 n, .str s, .sl (rowsV is), .sl (rowsN ns)]]) (st := st) (x := .tight [[.int .i64 k, .int .i64 n, .str s, .sl (rowsV is), .sl (rowsN ns)]]) rfl rfl rfl (by simp) (by simp) (by simp) (by decide)
def seenM (ms : List (List UInt8)) : List (PV × LV) := ms.map fun x => (.str x, .p (.bool true))
theorem seenM_find (x : List UInt8) : ∀ (ms : List (List UInt8)), mfind (.str x) (seenM ms) = some (if ms.contains x then some (.p (.bool true)) else none)
  | [] => rfl
  | y :: r => by
    have ih := seenM_find x r
    rw [seenM] at ih
    simp only [seenM, List.map_cons, mfind, pvEq]
    by_cases h : x = y
    · subst h; simp
    · have h2 : (x == y) = false := by simpa using h
      rw [h2]
      simp only [ih, List.contains_cons, h2, Bool.false_or]
theorem seenM_set (x : List UInt8) : ∀ (ms : List (List UInt8)), ms.contains x = false → mset (.str x) (.p (.bool true)) (seenM ms) = some (seenM (ms ++ [x]))
  | [], _ => rfl
  | y :: r, h => by
    rw [List.contains_cons, Bool.or_eq_false_iff] at h
    have ih := seenM_set x r h.2
    rw [seenM] at ih
    simp only [seenM, List.map_cons, mset, pvEq, h.1, ih, List.cons_append]
theorem seenM_refs (ms : List (List UInt8)) : (LObj.map (seenM ms)).refs = [] := by
  simp only [LObj.refs, seenM, List.flatMap_map]
  induction ms with
  | nil => rfl
  | cons x r ih => simp [LV.refs]
theorem seenM_ren (r : Nat → Nat) (ms : List (List UInt8)) : LObj.ren r (.map (seenM ms)) = .map (seenM ms) := by
  simp [LObj.ren, seenM, LV.ren]
theorem gc_seen {ms : List (List UInt8)} {vs : List LV} (h1 : vs.flatMap LV.refs = [0]) (h2 : vs.map (LV.ren fun q => [0].idxOf q) = vs) : gc 0 vs [.map (seenM ms)] = some (vs, [.map (seenM ms)]) := by
  have hr : gcIds 0 [.map (seenM ms)] (vs.flatMap LV.refs) = [0] := by
    rw [h1]
    unfold gcIds
    rw [show (100000 : Nat) = 99998 + 1 + 1 from rfl]
    simp [reach, seenM_refs]
  unfold gc
  simp only [hr]
  rw [h1, h2]
  simp [closed, seenM_refs, sub, seenM_ren]
theorem opIs_seen {st : List LObj} {ms : List (List UInt8)} {x : List UInt8} {o : Nat} (h : st[o]? = some (.map (seenM ms))) :
    opStep noCall [] st (.lookup .str (.p (.bool false)) false (.const (.mp o)) (.const (.p (.str x)))) = some (.p (.bool (ms.contains x)), st) := by
  simp only [opStep, LX.ev, LV.toPV, KK.fits, mlook, h, seenM_find]
  cases ms.contains x <;> rfl
theorem opIs_see {st : List LObj} {ms : List (List UInt8)} {x : List UInt8} {o : Nat} (h : st[o]? = some (.map (seenM ms))) (hx : ms.contains x = false) :
    opStep noCall [] st (.mapUpdate .str (.const (.mp o)) (.const (.p (.str x))) (.const (.p (.bool true)))) = some (.tup [], st.set o (.map (seenM (ms ++ [x])))) := by
  simp only [opStep, LX.ev, LV.toPV, KK.fits, h, seenM_set x ms hx]
  rfl
end Go.LS
set_option linter.unusedVariables false
namespace Go.LS
def u8 (x : Int) : UInt8 := UInt8.ofNat (Int.toNat (IntKind.wrap .u8 x))
mutual
def encC : Val → List UInt8
  | .mk k n s is ns => u8 k :: (if k == 1 then [] else if k == 2 then [u8 n] else if k == 3 then vcode (zzN n) else if k == 4 || k == 5 then vcode s.length ++ s
    else vcode is.length ++ encL (k == 7) is ns)
def encL : Bool → List Val → List (List UInt8) → List UInt8
  | _, [], _ => []
  | d, v :: r, ns => (if d then vcode (ns.headD []).length ++ ns.headD [] else []) ++ encC v ++ encL d r ns.tail
end
theorem encL_fold0 (ns : List (List UInt8)) : ∀ (is : List Val) (L : List UInt8), is.foldl (fun b x => b ++ encC x) L = L ++ encL false is ns := by
  intro is
  induction is generalizing ns with
  | nil => intro L; simp [encL]
  | cons v r ih => intro L; rw [List.foldl_cons, ih ns.tail]; simp [encL]
theorem encL_fold1 : ∀ (is : List Val) (ns : List (List UInt8)) (L : List UInt8), ns.length = is.length →
    (is.zip ns).foldl (fun b x => b ++ (vcode x.2.length ++ x.2) ++ encC x.1) L = L ++ encL true is ns := by
  intro is
  induction is with
  | nil => intro ns L h; simp [encL]
  | cons v r ih =>
    intro ns L h
    cases ns with
    | nil => simp at h
    | cons x q =>
      rw [List.zip_cons_cons, List.foldl_cons, ih q _ (by simpa using h)]
      simp [encL]
theorem encL_len0 : ∀ (is : List Val) (ns : List (List UInt8)), (∀ v ∈ is, ((encC v).length : Int) = sizeV v) → ((encL false is ns).length : Int) = sizeL is := by
  intro is
  induction is with
  | nil => intro ns h; simp [encL, sizeL]
  | cons v r ih =>
    intro ns h
    have h1 := h v (by simp)
    have h2 := ih ns.tail (fun x hx => h x (by simp [hx]))
    simp only [encL, sizeL, List.length_append, Bool.false_eq_true, if_false, List.length_nil]
    omega
theorem encL_len1 : ∀ (is : List Val) (ns : List (List UInt8)), ns.length = is.length → (∀ v ∈ is, ((encC v).length : Int) = sizeV v) → ((encL true is ns).length : Int) = sizeL is + (ns.map tlenN).sum := by
  intro is
  induction is with
  | nil => intro ns hn h; obtain rfl : ns = [] := List.eq_nil_of_length_eq_zero (by simpa using hn); simp [encL, sizeL]
  | cons v r ih =>
    intro ns hn h
    cases ns with
    | nil => simp at hn
    | cons x q =>
      have h1 := h v (by simp)
      have h2 := ih q (by simpa using hn) (fun y hy => h y (by simp [hy]))
      simp only [encL, sizeL, List.length_append, if_true, List.headD_cons, List.tail_cons, List.map_cons, List.sum_cons, tlenN]
      omega
end Go.LS
set_option linter.unusedVariables false
namespace Go.LS
end Go.LS
set_option linter.unusedVariables false
namespace Go.LS
end Go.LS
namespace Go.LS
theorem dlt {i n : Nat} (h : i < n) : decide ((i : Int) < ((n : Nat) : Int)) = true := decide_eq_true (by omega)
theorem dlt_n {n : Nat} : decide (((n : Nat) : Int) < ((n : Nat) : Int)) = false := decide_eq_false (by omega)
theorem ifE {lp : LProg} {f : FuncId} {a : List LV} {s : List LObj} {x y : LV × List LObj} (h : Runs lp f a s x) (e : x = y) : Runs lp f a s y := e ▸ h
end Go.LS
set_option linter.unusedVariables false
namespace Go.LS
end Go.LS
set_option linter.unusedVariables false
set_option linter.unusedSimpArgs false
namespace Go.LS
def rowS (es : List (List PV)) : List (List LV) := es.map fun e => e.map LV.p
theorem refs_p (e : List PV) : (e.map LV.p).flatMap LV.refs = [] := by
  induction e with
  | nil => rfl
  | cons a b ih => rw [List.map_cons, List.flatMap_cons, ih]; rfl
theorem rowS_refs (es : List (List PV)) : (LObj.row (rowS es)).refs = [] := by
  simp only [LObj.refs, rowS]
  induction es with
  | nil => rfl
  | cons e r ih => rw [List.map_cons, List.flatMap_cons, ih, refs_p]; rfl
theorem rowS_ren (es : List (List PV)) (f : Nat → Nat) : (LObj.row (rowS es)).ren f = .row (rowS es) := by
  simp only [LObj.ren, rowS, List.map_map]
  congr 1
  apply List.map_congr_left
  intro e _
  simp only [Function.comp, List.map_map]
  apply List.map_congr_left
  intro c _
  rfl
theorem callAt_pure {lp : LProg} {f : FuncId} {args0 args : List LV} {st st1 st' : List LObj} {r v : LV} (h : Runs lp f args [] (r, st1)) (hw : wk (lp.weak f) args0 = args) (h0 : args.flatMap LV.refs = []) (hr : args.map (LV.ren fun q => ([] : List Nat).idxOf q) = args)
    (hv : r.ren (back [] st.length) = v) (hs : st ++ st1.map (LObj.ren (back [] st.length)) = st') : CallAt lp f args0 st (v, st') := by
  have hk : callO lp f args0 st r st1 = some (v, st', Runs lp f args [] (r, st1)) := by
    unfold callO
    simp only [hw, h0]
    have e1 : reach st 100000 [] [] = [] := rfl
    rw [e1]
    simp only [hr]
    have e2 : sub st [] = [] := rfl
    have e3 : (closed st [] && ([] : List Nat).all (([] : List Nat).contains ·) && decide ([] : List Nat).Nodup) = true := rfl
    rw [if_pos e3, if_pos (show ([] : List Nat).length ≤ st1.length from Nat.zero_le _), e2, hv]
    simp only [List.length_nil, List.take_zero, List.map_nil, putBack, List.drop_zero]
    rw [hs]
  obtain ⟨n, hn⟩ := callO_sound hk h
  exact ⟨n, hn⟩
def oG {lp : LProg} {k : Nat} {x : List Bool × LCode} {t1 t t' : List LV} {st1 st st' : List LObj} {o : LOut} (_ : gc k t1 st1 = some (t, st)) (_ : LoopN lp k x t st (o, t', st')) : Orc := .lg o t' st' t st
def oA {lp : LProg} {f : FuncId} {args : List LV} {st st' : List LObj} {v : LV} (_ : CallAt lp f args st (v, st')) : Orc := .cg v st'
end Go.LS
namespace Go.LS
end Go.LS
namespace Go.LS
end Go.LS
set_option linter.unusedVariables false
set_option linter.unusedSimpArgs false
namespace Go.LS
theorem callAt_sh {lp : LProg} {f : FuncId} {args0 args args' : List LV} {st sh st1 st' sub' : List LObj} {r v : LV} {ids : List Nat} (hr : st.map LObj.refs = sh.map LObj.refs) (hw : wk (lp.weak f) args0 = args)
    (hi : reach sh 100000 (args.flatMap LV.refs) [] = ids) (hc : (closed sh ids && (args.flatMap LV.refs).all (ids.contains ·) && decide ids.Nodup) = true)
    (ha : args.map (LV.ren fun q => ids.idxOf q) = args') (hs : sub st ids = sub') (h : Runs lp f args' sub' (r, st1)) (hl : decide (ids.length ≤ st1.length) = true) (hv : r.ren (back ids st.length) = v)
    (hp : putBack st ids ((st1.take ids.length).map (LObj.ren (back ids st.length))) ++ (st1.drop ids.length).map (LObj.ren (back ids st.length)) = st') : CallAt lp f args0 st (v, st') := by
  obtain ⟨n, hn⟩ := Runs.at h
  refine ⟨n, fun m hm => ?_⟩
  unfold callIso
  simp only
  rw [runF_weak, hw, reach_sh hr, hi, closed_sh hr, if_pos hc, ha, hs, hn m hm]
  simp only
  rw [if_pos (of_decide_eq_true hl), hv, hp]
section
variable {o n size : Nat} {X : List (List PV)} {st : List LObj}
end
end Go.LS
namespace Go.LS
theorem flat_nil {α β : Type} {f : α → List β} {l : List α} (h : ∀ x ∈ l, f x = []) : l.flatMap f = [] := by
  induction l with
  | nil => rfl
  | cons a r ih => rw [List.flatMap_cons, h a (List.mem_cons_self ..), ih fun x hx => h x (List.mem_cons_of_mem _ hx)]; rfl
end Go.LS
set_option linter.unusedVariables false
namespace Go.LS
end Go.LS
namespace Go.LS
def zeroV : Val := .mk 0 0 [] [] []
end Go.LS
namespace Go.LS
end Go.LS
namespace Go.LS
def kV : Val → Int | .mk k _ _ _ _ => k
def nV : Val → Int | .mk _ n _ _ _ => n
def sV : Val → List UInt8 | .mk _ _ s _ _ => s
def iV : Val → List Val | .mk _ _ _ i _ => i
def mV : Val → List (List UInt8) | .mk _ _ _ _ m => m
end Go.LS
set_option linter.unusedVariables false
set_option linter.unusedSimpArgs false
namespace Go.LS
def ringE : Option Val → List LV
  | none => [.p (.bool false), .p (.int .i64 0), .p (.int .i64 0), .p (.str []), .tight [], .tight []]
  | some (.mk k n s is ns) => [.p (.bool true), .p (.int .i64 k), .p (.int .i64 n), .p (.str s), .p (.sl (rowsV is)), .p (.sl (rowsN ns))]
def ringS (R : List (Option Val)) : List (List LV) := R.map ringE
theorem ringE_refs (o : Option Val) : (ringE o).flatMap LV.refs = [] := by
  cases o with
  | none => rfl
  | some v => obtain ⟨k, n, s, is, ns⟩ := v; rfl
theorem ringE_len (o : Option Val) : (ringE o).length = 6 := by
  cases o with
  | none => rfl
  | some v => obtain ⟨k, n, s, is, ns⟩ := v; rfl
theorem ringE_ren (o : Option Val) (f : Nat → Nat) : (ringE o).map (LV.ren f) = ringE o := by
  cases o with
  | none => rfl
  | some v => obtain ⟨k, n, s, is, ns⟩ := v; rfl
theorem ringS_refs (R : List (Option Val)) : (LObj.row (ringS R)).refs = [] := by
  refine flat_nil fun e he => ?_
  obtain ⟨o, _, rfl⟩ := List.mem_map.1 he
  exact ringE_refs o
theorem ringS_ren (R : List (Option Val)) (f : Nat → Nat) : (LObj.row (ringS R)).ren f = .row (ringS R) := by
  simp only [LObj.ren, LObj.row.injEq, ringS, List.map_map]
  exact List.map_congr_left fun o _ => ringE_ren o f
def wI (x m : Int) : Bool := decide (x ≥ 0) && decide (x ≤ m)
def putR (kp t : Int) (R : List (Option Val)) (x : Option Val) : List (Option Val) := if kp > 0 then R.set (Int.toNat (Int.tmod (t + 1) kp)) x else R
theorem ringS_get {R : List (Option Val)} {i : Nat} {o : Option Val} (h : R[i]? = some o) : (ringS R)[i]? = some (ringE o) := by simp [ringS, h]
theorem opIs_idxRing {o n k : Nat} {R : List (Option Val)} {st : List LObj} (hs : st[o]? = some (.row (ringS R))) (hk : k < n) (he : k < R.length) {j : Int} (hj : j = (k : Int)) :
    opStep noCall [] st (.indexAddr 6 (.const (.rs o 0 n)) (.const (.p (.int .i64 j)))) = some (.ptr o k 0, st) := by
  subst hj
  have h1 : ¬ ((k : Int) < 0) := by omega
  have h2 : (k : Int) < (n : Int) := by omega
  simp only [opStep, LX.ev, LV.asInt, if_neg h1, if_pos h2, hs, Int.toNat_natCast, Nat.zero_add, ringS_get (List.getElem?_eq_getElem he), ringE_len, if_true]
theorem opIs_ldRing {o k : Nat} {R : List (Option Val)} {x : Option Val} {st : List LObj} (hs : st[o]? = some (.row (ringS R))) (he : R[k]? = some x) :
    opStep noCall [] st (.load true 6 (.const (.ptr o k 0))) = some (.agg (ringE x), st) := by
  have hl := ringE_len x
  simp only [opStep, LX.ev, LV.ldAt, hs, ringS_get he]
  rw [if_pos (by omega)]
  simp only [List.drop_zero, ofCells, if_true]
  rw [List.take_of_length_le (by omega)]
def ringAt (R : List (Option Val)) (k : Nat) : Option Val := R.getD k none
theorem ringAt_get {R : List (Option Val)} {k : Nat} (h : k < R.length) : R[k]? = some (ringAt R k) := by simp [ringAt, h]
theorem opIs_ldRN {o k : Nat} {R : List (Option Val)} {st : List LObj} (hs : st[o]? = some (.row (ringS R))) (he : k < R.length) (hn : (ringAt R k).isSome = false) :
    opStep noCall [] st (.load true 6 (.const (.ptr o k 0))) = some (.agg [.p (.bool false), .p (.int .i64 0), .p (.int .i64 0), .p (.str []), .tight [], .tight []], st) := by
  have h := ringAt_get he
  cases hq : ringAt R k with
  | some v => rw [hq] at hn; cases hn
  | none => rw [hq] at h; exact opIs_ldRing hs h
theorem opIs_ldRV {o k : Nat} {R : List (Option Val)} {st : List LObj} (hs : st[o]? = some (.row (ringS R))) (he : k < R.length) (hn : (ringAt R k).isSome = true) :
    opStep noCall [] st (.load true 6 (.const (.ptr o k 0))) = some (.agg [.p (.bool true), .p (.int .i64 (kV ((ringAt R k).getD zeroV))), .p (.int .i64 (nV ((ringAt R k).getD zeroV))), .p (.str (sV ((ringAt R k).getD zeroV))), .p (.sl (rowsV (iV ((ringAt R k).getD zeroV)))), .p (.sl (rowsN (mV ((ringAt R k).getD zeroV))))], st) := by
  have h := ringAt_get he
  cases hq : ringAt R k with
  | none => rw [hq] at hn; cases hn
  | some v =>
    rw [hq] at h
    have := opIs_ldRing hs h
    obtain ⟨a, b, c, d, e⟩ := v
    exact this
theorem ringS_set (R : List (Option Val)) (k : Nat) (x : Option Val) : (ringS R).set k (ringE x) = ringS (R.set k x) := by simp [ringS, List.map_set]
theorem opIs_stRing {o k : Nat} {R : List (Option Val)} {x : Option Val} {st : List LObj} (hs : st[o]? = some (.row (ringS R))) (he : k < R.length) :
    opStep noCall [] st (.store 6 (.const (.ptr o k 0)) (.const (.agg (ringE x)))) = some (.tup [], st.set o (.row (ringS (R.set k x)))) := by
  have hl := ringE_len x
  have hl2 := ringE_len R[k]
  simp only [opStep, LX.ev, LV.cells?, hl, if_true, LV.stAt, hs, ringS_get (List.getElem?_eq_getElem he)]
  rw [if_pos (by omega)]
  simp only [List.take_zero, List.nil_append, Nat.zero_add]
  rw [List.drop_eq_nil_of_le (by omega), List.append_nil, ringS_set]
theorem opIs_mkRing {st : List LObj} {c : Int} (h : 0 ≤ c) (h2 : c ≤ 1000000) :
    opStep noCall [] st (.mkslice 6 88 [.p (.bool false), .p (.int .i64 0), .p (.int .i64 0), .p (.str []), .tight [], .tight []] (.const (.p (.int .i64 c))) (.const (.p (.int .i64 c)))) = some (.rs st.length 0 (Int.toNat c), st ++ [.row (ringS (List.replicate (Int.toNat c) none))]) := by
  have h1 : ¬ (c = 0 ∧ 0 < c) := by omega
  have h3 : 0 ≤ c ∧ c ≤ c ∧ c * (88 : Nat) ≤ 281474976710656 ∧ c ≤ maxLen ∧ [LV.p (.bool false), .p (.int .i64 0), .p (.int .i64 0), .p (.str []), .tight [], .tight []].length = 6 ∧ 0 < 6 := ⟨h, by omega, by omega, by simp [maxLen]; omega, rfl, by decide⟩
  simp only [opStep, LX.ev, LV.asInt]
  rw [if_pos h3, if_neg h1]
  simp only [ringS, List.map_replicate, if_true]
  rfl
theorem opIs_remI {x y : Int} {st : List LObj} (h : y ≠ 0) : opStep noCall [] st (.bin .rem (.const (.p (.int .i64 x))) (.const (.p (.int .i64 y)))) = some (.p (.int .i64 (Int.tmod x y)), st) := by
  simp only [opStep, LX.ev, lbin, ibin]
  simp [h]
def leastI (kp b t : Int) : Int := (if t - kp > b then t - kp else b) + 1
def getI (kp b t : Int) (R : List (Option Val)) (i : Int) : Val × Int × Int :=
  if i < 1 ∨ i > t then (zeroV, 0, 4) else if i < leastI kp b t then (zeroV, 3, 0) else
    match ringAt R (Int.toNat (Int.tmod i kp)) with
    | some v => (v, 2, 0)
    | none => (zeroV, 1, 0)
end Go.LS
set_option linter.unusedVariables false
set_option linter.unusedSimpArgs false
namespace Go.LS
def rowSZ (es : List (List PV)) : List (List LV) := rowS es ++ [[.p (.int .i64 0), .p (.int .i64 0), .p (.str []), .tight [], .tight []]]
theorem rowSZ_refs (es : List (List PV)) : (LObj.row (rowSZ es)).refs = [] := by
  have := rowS_refs es
  simp only [LObj.refs, rowSZ, List.flatMap_append] at this ⊢
  rw [this]; rfl
theorem rowSZ_ren (es : List (List PV)) (f : Nat → Nat) : (LObj.row (rowSZ es)).ren f = .row (rowSZ es) := by
  have := rowS_ren es f
  simp only [LObj.ren, rowSZ, List.map_append, LObj.row.injEq] at this ⊢
  rw [this]; rfl
end Go.LS
set_option linter.unusedVariables false
set_option linter.unusedSimpArgs false
namespace Go.LS
def ringP : Option Val → List PV
  | none => [.bool false, .int .i64 0, .int .i64 0, .str [], .sl [], .sl []]
  | some (.mk k n s is ns) => [.bool true, .int .i64 k, .int .i64 n, .str s, .sl (rowsV is), .sl (rowsN ns)]
def rowsE (L : List (Option Val)) : List (List PV) := L.map ringP
theorem ringP_len (o : Option Val) : (ringP o).length = 6 := by
  cases o with
  | none => rfl
  | some v => obtain ⟨k, n, s, is, ns⟩ := v; rfl
theorem rowsE_len (L : List (Option Val)) : (rowsE L).length = L.length := by simp [rowsE]
theorem rowsE_append (a b : List (Option Val)) : rowsE (a ++ b) = rowsE a ++ rowsE b := by simp [rowsE]
theorem rowsE_at {L : List (Option Val)} {i : Nat} (h : i < L.length) : (rowsE L)[i]? = some (ringP (ringAt L i)) := by
  have := ringAt_get h
  simp [rowsE, this]
theorem sizedE (L : List (Option Val)) : sized 6 (rowsE L) = true := by
  simp only [sized, rowsE, List.all_map]
  rw [List.all_eq_true]
  intro o _
  simp [ringP_len]
theorem rowsE_ne {L : List (Option Val)} (h : L ≠ []) : rowsE L ≠ [] := fun hh => h (by cases L with | nil => rfl | cons a b => simp [rowsE] at hh)
theorem opIs_idxEN {v : LV} {L : List (Option Val)} {i : Nat} {st : List LObj} (hv : v.asSl = some (rowsE L)) (hr : v.isRs = false) (h : i < L.length) (hn : (ringAt L i).isSome = false) {j : Int} (hj : j = ((i : Nat) : Int)) :
    opStep noCall [] st (.indexAddr 6 (.const v) (.const (.p (.int .i64 j)))) = some (.pin [.bool false, .int .i64 0, .int .i64 0, .str [], .sl [], .sl []] 0, st) := by
  subst hj
  cases hq : ringAt L i with
  | some v => rw [hq] at hn; cases hn
  | none =>
    have := rowsE_at h
    rw [hq] at this
    exact opIs_idxE hv hr this rfl
theorem opIs_idxEV {v : LV} {L : List (Option Val)} {i : Nat} {st : List LObj} (hv : v.asSl = some (rowsE L)) (hr : v.isRs = false) (h : i < L.length) (hn : (ringAt L i).isSome = true) {j : Int} (hj : j = ((i : Nat) : Int)) :
    opStep noCall [] st (.indexAddr 6 (.const v) (.const (.p (.int .i64 j)))) = some (.pin [.bool true, .int .i64 (kV ((ringAt L i).getD zeroV)), .int .i64 (nV ((ringAt L i).getD zeroV)), .str (sV ((ringAt L i).getD zeroV)), .sl (rowsV (iV ((ringAt L i).getD zeroV))), .sl (rowsN (mV ((ringAt L i).getD zeroV)))] 0, st) := by
  subst hj
  cases hq : ringAt L i with
  | none => rw [hq] at hn; cases hn
  | some w =>
    have := rowsE_at h
    rw [hq] at this
    obtain ⟨a, b, c, d, e⟩ := w
    exact opIs_idxE hv hr this rfl
theorem opIs_appES {tg : Nat} {L : List (Option Val)} (x : Option Val) {st : List LObj} (hs : st[tg]? = some (.spare 6 (List.length (rowsE L)))) (hb : L.length + 1 ≤ 1000000000000) :
    opStep noCall [] st (.append false 6 88 (.const (.sl (rowsE L) tg (List.length (rowsE L)))) (.const (.tight [ringP x]))) =
      some (.sl (rowsE (L ++ [x])) tg (List.length (rowsE (L ++ [x]))), st.set tg (.spare 6 (List.length (rowsE (L ++ [x]))))) := by
  have := opIs_appSE (size := 6) (bytes := 88) (tg := tg) (E := rowsE L) (X := [ringP x]) (st := st) (x := .tight [ringP x]) hs rfl (sizedE [x])
    (by rw [rowsE_len]; simp; omega) (by rw [rowsE_len]; simp; omega) (by decide)
  rw [this, rowsE_append]
  rfl
theorem opIs_appET (x : Option Val) {st : List LObj} :
    opStep noCall [] st (.append false 6 88 (.const (.tight [])) (.const (.tight [ringP x]))) =
      some (.sl (rowsE [x]) st.length (List.length (rowsE [x])), st ++ [.spare 6 (List.length (rowsE [x]))]) := by
  exact opIs_appTE (size := 6) (bytes := 88) (E := []) (X := [ringP x]) (st := st) (x := .tight [ringP x]) rfl rfl (sizedE [x]) (by simp) (by simp) (by simp) (by decide)
theorem opIs_appEC {tg f : Nat} {L : List (Option Val)} {st : List LObj} (h : L ≠ []) (hb : L.length ≤ 1000000000000) :
    opStep noCall [] st (.append false 6 88 (.const (.tight [])) (.const (.sl (rowsE L) tg f))) = some (.sl (rowsE L) st.length (List.length (rowsE L)), st ++ [.spare 6 (List.length (rowsE L))]) := by
  have := opIs_appTE (size := 6) (bytes := 88) (E := []) (X := rowsE L) (st := st) (x := .sl (rowsE L) tg f) rfl rfl (sizedE L) (rowsE_ne h) (by rw [rowsE_len]; simp; omega) (by rw [rowsE_len]; simp; omega) (by decide)
  simpa using this
def topX (xb : Int) (L : List (Option Val)) : Int := xb + L.length
def knownX (kp xb : Int) (L : List (Option Val)) (i : Int) : Bool := decide (i > xb) && (decide (i ≤ topX xb L) && decide (i > topX xb L - kp))
def getX (kp xb : Int) (L : List (Option Val)) (i : Int) : Val × Int × Int :=
  if i < 1 ∨ i > topX xb L then (zeroV, 0, 4) else if knownX kp xb L i = false then (zeroV, 3, 0) else
    match ringAt L (i - xb - 1).toNat with
    | some v => (v, 2, 0)
    | none => (zeroV, 1, 0)
structure InvI (kp t : Int) (R : List (Option Val)) (xb : Int) (L : List (Option Val)) : Prop where
  k0 : 0 ≤ kp
  len : R.length = kp.toNat
  b0 : 0 ≤ xb
  top : t = xb + L.length
  at_ : ∀ i, xb < i → i ≤ t → t - kp < i → ringAt R (Int.toNat (Int.tmod i kp)) = ringAt L (i - xb - 1).toNat
def BaseI (kp b t xb : Int) : Prop := 0 ≤ b ∧ b ≤ xb ∧ (b = xb ∨ xb ≤ t - kp)
theorem InvI.new {kp b : Int} (hk : 0 ≤ kp) (hb : 0 ≤ b) : InvI kp b (List.replicate kp.toNat none) b [] :=
  ⟨hk, by simp, hb, by simp, fun i h1 h2 _ => by omega⟩
theorem BaseI.refl {kp b t : Int} (h : 0 ≤ b) : BaseI kp b t b := ⟨h, Int.le_refl _, .inl rfl⟩
theorem BaseI.next {kp b t xb : Int} (h : BaseI kp b t xb) : BaseI kp b (t + 1) xb := ⟨h.1, h.2.1, h.2.2.imp id (fun h => by omega)⟩
theorem mod_ne {i t kp : Int} (hi : 0 ≤ i) (h1 : i < t) (h2 : t - kp < i) : Int.toNat (Int.tmod i kp) ≠ Int.toNat (Int.tmod t kp) := by
  rw [Int.tmod_eq_emod_of_nonneg hi, Int.tmod_eq_emod_of_nonneg (by omega)]
  intro h
  have hk : 0 < kp := by omega
  have e1 := Int.emod_nonneg i (show kp ≠ 0 by omega)
  have e2 := Int.emod_nonneg t (show kp ≠ 0 by omega)
  have h : i % kp = t % kp := by omega
  have hd : (t - i) % kp = 0 := by rw [Int.sub_emod, h, Int.sub_self]; simp
  rw [Int.emod_eq_of_lt (by omega) (by omega)] at hd
  omega
theorem ringAt_app {L : List (Option Val)} {x : Option Val} {i : Nat} (h : i < L.length) : ringAt (L ++ [x]) i = ringAt L i := by
  simp [ringAt, List.getD, List.getElem?_append_left h]
theorem ringAt_end {L : List (Option Val)} {x : Option Val} : ringAt (L ++ [x]) L.length = x := by simp [ringAt]
theorem InvI.note {kp t xb : Int} {R L : List (Option Val)} (h : InvI kp t R xb L) (x : Option Val) : InvI kp (t + 1) (putR kp t R x) xb (L ++ [x]) := by
  obtain ⟨k0, len, b0, top, at_⟩ := h
  refine ⟨k0, ?_, b0, by simp; omega, fun i h1 h2 h3 => ?_⟩
  · unfold putR; split <;> simp [len]
  · unfold putR
    rw [if_pos (by omega)]
    by_cases he : i = t + 1
    · subst he
      have hlt : Int.toNat (Int.tmod (t + 1) kp) < R.length := by
        rw [len, Int.tmod_eq_emod_of_nonneg (by omega)]
        have e1 := Int.emod_nonneg (t + 1) (show kp ≠ 0 by omega)
        have e2 := Int.emod_lt_of_pos (t + 1) (show 0 < kp by omega)
        omega
      have e : (t + 1 - xb - 1).toNat = L.length := by omega
      rw [e, ringAt_end]
      unfold ringAt
      rw [List.getD, List.getElem?_set_self hlt]
      rfl
    · have hlt : (i - xb - 1).toNat < L.length := by omega
      rw [ringAt_app hlt, ← at_ i h1 (by omega) (by omega)]
      unfold ringAt
      rw [List.getD, List.getD, List.getElem?_set_ne (fun hh => mod_ne (i := i) (t := t + 1) (kp := kp) (by omega) (by omega) (by omega) hh.symm)]
theorem leastI_eq {kp b t xb : Int} (hb : BaseI kp b t xb) : leastI kp b t = (if t - kp > xb then t - kp else xb) + 1 := by
  obtain ⟨h0, h1, h2⟩ := hb
  unfold leastI
  rcases h2 with h | h
  · rw [h]
  · split <;> split <;> omega
theorem get_eq {kp b t xb : Int} {R L : List (Option Val)} (h : InvI kp t R xb L) (hb : BaseI kp b t xb) (i : Int) : getI kp b t R i = getX kp xb L i := by
  obtain ⟨k0, len, b0, top, at_⟩ := h
  unfold getI getX knownX topX
  rw [leastI_eq hb, ← top]
  by_cases h1 : i < 1 ∨ i > t
  · rw [if_pos h1, if_pos h1]
  · rw [if_neg h1, if_neg h1]
    by_cases h2 : i < (if t - kp > xb then t - kp else xb) + 1
    · rw [if_pos h2, if_pos]
      split at h2
      · simp; intro _ _; omega
      · simp; intro _; omega
    · rw [if_neg h2, if_neg]
      · rw [at_ i (by split at h2 <;> omega) (by omega) (by split at h2 <;> omega)] <;> rfl
      · split at h2 <;> simp <;> omega
def encE : Option Val → List UInt8
  | none => [0]
  | some v => 1 :: encC v
def codeE (L : List (Option Val)) : List UInt8 := (L.map encE).flatten
def ringL (kp : Int) (R : List (Option Val)) (i : Int) : Nat → List (Option Val)
  | 0 => []
  | n + 1 => ringAt R (Int.toNat (Int.tmod i kp)) :: ringL kp R (i + 1) n
theorem ringL_eq {kp t xb : Int} {R L : List (Option Val)} (h : InvI kp t R xb L) : ∀ (n : Nat) (i : Int), xb < i → t - kp < i → i + n = t + 1 → ringL kp R i n = L.drop (i - xb - 1).toNat
  | 0, i, h1, h2, h3 => by
    have := h.top
    rw [List.drop_eq_nil_of_le (by omega)]; rfl
  | n + 1, i, h1, h2, h3 => by
    have := h.top
    have hlt : (i - xb - 1).toNat < L.length := by omega
    rw [ringL, h.at_ i h1 (by omega) h2, ringL_eq h n (i + 1) (by omega) (by omega) (by omega), List.drop_eq_getElem_cons hlt]
    have e : (i + 1 - xb - 1).toNat = (i - xb - 1).toNat + 1 := by omega
    rw [e]
    congr 1
    rw [ringAt, List.getD, List.getElem?_eq_getElem hlt]; rfl
structure OpI where
  k : Int
  v : Val
  b : Bool
def rowI (o : OpI) : List PV := [.int .i64 o.k] ++ rowV o.v ++ [.bool o.b]
def rowsI (l : List OpI) : List (List PV) := l.map rowI
theorem rowsI_len (l : List OpI) : (rowsI l).length = l.length := by simp [rowsI]
theorem rowsI_get {l : List OpI} {i : Nat} {k kk n : Int} {s : List UInt8} {is : List Val} {ns : List (List UInt8)} {b : Bool} (h : l[i]? = some (OpI.mk k (.mk kk n s is ns) b)) :
    (rowsI l)[i]? = some [.int .i64 k, .int .i64 kk, .int .i64 n, .str s, .sl (rowsV is), .sl (rowsN ns), .bool b] := by
  simp [rowsI, h]; rfl
def okI1 (o : OpI) : Prop := okV o.v
theorem okOpI1 {Q : List PV → Prop} (hQ : ∀ {es : List (List PV)}, (∀ e ∈ es, Q e) → ∃ l : List Val, es = rowsV l ∧ okL l) {e : List PV}
    (h : okPVs [.int .i64, .int .i64, .int .i64, .str, .pr Q 80, .sl [.str] 16, .bool] e) : ∃ o : OpI, e = rowI o ∧ okI1 o := by
  obtain ⟨_, _, rfl, ⟨k, rfl, -, -⟩, _, _, rfl, ⟨a, rfl, a0⟩, _, _, rfl, ⟨b, rfl, b0⟩, _, _, rfl, ⟨s, rfl, hs⟩, _, _, rfl, ⟨es, rfl, e0⟩, _, _, rfl, ⟨ns, rfl, n0⟩, _, _, rfl, ⟨r, rfl⟩, rfl⟩ := h
  obtain ⟨v, hv, hv2⟩ := okVal1 hQ (e := [.int .i64 a, .int .i64 b, .str s, .sl es, .sl ns]) ⟨_, _, rfl, ⟨a, rfl, a0⟩, _, _, rfl, ⟨b, rfl, b0⟩, _, _, rfl, ⟨s, rfl, hs⟩, _, _, rfl, ⟨es, rfl, e0⟩, _, _, rfl, ⟨ns, rfl, n0⟩, rfl⟩
  refine ⟨⟨k, v, r⟩, ?_, hv2⟩
  simp only [rowI]
  rw [← hv]; rfl
theorem okOpsI {Q : List PV → Prop} (hQ : ∀ {es : List (List PV)}, (∀ e ∈ es, Q e) → ∃ l : List Val, es = rowsV l ∧ okL l) : ∀ {es : List (List PV)},
    (∀ e ∈ es, okPVs [.int .i64, .int .i64, .int .i64, .str, .pr Q 80, .sl [.str] 16, .bool] e) → ∃ l : List OpI, es = rowsI l ∧ ∀ o ∈ l, okI1 o
  | [], _ => ⟨[], rfl, by simp⟩
  | e :: r, h => by
    obtain ⟨l, rfl, hl⟩ := okOpsI hQ (es := r) (fun x hx => h x (List.mem_cons_of_mem _ hx))
    obtain ⟨o, rfl, ho⟩ := okOpI1 hQ (h e (List.mem_cons_self ..))
    refine ⟨o :: l, rfl, fun x hx => ?_⟩
    rcases List.mem_cons.1 hx with rfl | hx
    · exact ho
    · exact hl x hx
theorem opIs_appN1 {M : List UInt8} {tg f : Nat} {st : List LObj} (h : M ≠ []) (hl : M.length ≤ 200000000000000) :
    opStep noCall [] st (.append false 1 1 (.const (.tight [])) (.const (.sl (bs M) tg f))) = some (.sl (bs M) st.length M.length, st ++ [.spare 1 M.length]) := by
  have := opIs_appT (str := false) (L := []) (M := M) (es0 := []) (es := bs M) (st := st) (x := .sl (bs M) tg f) rfl rfl rfl h (by simpa using hl)
  simpa using this
end Go.LS

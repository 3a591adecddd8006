/- Rules: a function's way, a loop's round. -/
import Derived.Test.YthiilhepneddpaaLsOrc
set_option linter.unusedVariables false
set_option linter.unusedSimpArgs false
namespace Go.LS

def Conj : List Prop → Prop
  | [] => True
  | p :: r => p ∧ Conj r
theorem Conj.all : ∀ {ps : List Prop}, Conj ps → AllP ps
  | [], _, p, hp => by cases hp
  | q :: r, h, p, hp => by
    rcases List.mem_cons.1 hp with rfl | hp
    · exact h.1
    · exact h.2.all p hp

/-- A call, what is not known told from outside. -/
def runO (lp : LProg) (N : Nat) (f : FuncId) (args : List LV) (st : List LObj) (os : Os) : Option (LV × List LObj × List Prop) :=
  match lp.summ f with
  | some _ => none
  | none => match lp.fns f with
    | none => none
    | some lf => match execO lp st.length N lf.body (wk (lp.weak f) args ++ List.replicate (lf.ntmps - args.length) .und) st os with
      | some (.exit _, _, _, _, _) => none
      | some (_, t', st', ps, _) => match evRes t' st' lf.results with
        | some vs => match gc st.length vs st' with
          | some (vs', st'') => some (oneRes vs', st'', ps)
          | none => none
        | none => none
      | none => none

theorem runO_sound {lp : LProg} {N : Nat} {f : FuncId} {args : List LV} {st st' : List LObj} {os : Os} {v : LV} {ps : List Prop} (h : runO lp N f args st os = some (v, st', ps)) (hp : Conj ps) : Runs lp f args st (v, st') := by
  unfold runO at h
  split at h
  · cases h
  · rename_i hsm
    split at h
    · cases h
    · rename_i lf hlf
      split at h
      · cases h
      · rename_i out t1 st1 ps1 os1 hne hex
        split at h
        · rename_i vs hvs
          split at h
          · rename_i vs' st2 hgc
            simp only [Option.some.injEq, Prod.mk.injEq] at h
            obtain ⟨rfl, rfl, rfl⟩ := h
            obtain ⟨n, hn⟩ := execO_sound hex hp.all
            refine ⟨n + 1, ?_⟩
            simp only [runF, hsm, hlf, hn]
            cases out with
            | exit i => exact (hne i rfl).elim
            | normal => simp only [hvs, hgc]
            | ret => simp only [hvs, hgc]
          · cases h
        · cases h
      · cases h

/-- A loop's round: on (the temporaries ready for the next), or out. -/
def roundO (lp : LProg) (N k : Nat) (mask : List Bool) (c : LCode) (t : List LV) (st : List LObj) (os : Os) : Option (LOut × List LV × List LObj × List Prop) :=
  match execO lp k N c t st os with
  | some (.normal, t', st', ps, _) => match gc k (kill mask t') st' with
    | some (t'', st'') => some (.normal, t'', st'', ps)
    | none => none
  | some (o, t', st', ps, _) => some (o, t', st', ps)
  | none => none

theorem LoopAt.on {lp : LProg} {N k : Nat} {mask : List Bool} {c : LCode} {t t' : List LV} {st st' : List LObj} {os : Os} {ps : List Prop} {r : LOut × List LV × List LObj}
    (h : roundO lp N k mask c t st os = some (.normal, t', st', ps)) (hp : Conj ps) (hr : LoopAt lp k mask c t' st' r) : LoopAt lp k mask c t st r := by
  unfold roundO at h
  split at h
  · rename_i t1 st1 ps1 os1 hex
    split at h
    · rename_i t2 st2 hg
      simp only [Option.some.injEq, Prod.mk.injEq, true_and] at h
      obtain ⟨rfl, rfl, rfl⟩ := h
      obtain ⟨n, hn⟩ := (execO_sound hex hp.all).at
      obtain ⟨m, hm⟩ := hr
      refine ⟨max n m + 1, ?_⟩
      rw [hn (max n m + 1) (by omega)]
      simp only [exec, hg]
      cases he : exec (runF lp m) k m c t2 st2 with
      | none => rw [he] at hm; cases hm
      | some x =>
        obtain ⟨o2, t3, st3⟩ := x
        rw [he] at hm
        rw [exec_mono (runF_mono (show m ≤ max n m + 1 by omega)) (show m ≤ max n m by omega) he]
        cases o2 with
        | normal => exact exec_mono (runF_mono (by omega)) (by omega) hm
        | _ => exact hm
    · cases h
  · rename_i hne hex
    simp only [Option.some.injEq, Prod.mk.injEq] at h
    obtain ⟨rfl, rfl, rfl, rfl⟩ := h
    exact (hne rfl).elim
  · cases h

theorem LoopAt.out {lp : LProg} {N k : Nat} {mask : List Bool} {c : LCode} {t t' : List LV} {st st' : List LObj} {os : Os} {ps : List Prop} {o : LOut}
    (h : roundO lp N k mask c t st os = some (o, t', st', ps)) (ho : (match o with | .normal => false | _ => true) = true) (hp : Conj ps) : LoopAt lp k mask c t st (o, t', st') := by
  unfold roundO at h
  split at h
  · split at h
    · cases h; cases ho
    · cases h
  · rename_i o1 t1 st1 ps1 os1 hne hex
    simp only [Option.some.injEq, Prod.mk.injEq] at h
    obtain ⟨rfl, rfl, rfl, rfl⟩ := h
    obtain ⟨n, hn⟩ := execO_sound hex hp.all
    refine ⟨n, ?_⟩
    rw [hn]
    cases o1 with
    | normal => cases ho
    | _ => rfl
  · cases h

/-- The body of the one loop at a place of a function's code. -/
def loopsOf : LCode → List (List Bool × LCode)
  | .seq a b => loopsOf a ++ loopsOf b
  | .cond _ a b => loopsOf a ++ loopsOf b
  | .both _ a b c => loopsOf a ++ loopsOf b ++ loopsOf c
  | .block _ _ c => loopsOf c
  | .loop m c => (m, c) :: loopsOf c
  | _ => []
def loopNo (lf : LFn) (i : Nat) : List Bool × LCode := (loopsOf lf.body).getD i ([], .skip)


/-- The temporaries from number i on, those that are known listed. -/
def tl (i : Nat) : Nat → List (Nat × LV) → List LV
  | 0, _ => []
  | n + 1, [] => .und :: tl (i + 1) n []
  | n + 1, (j, v) :: r => match Nat.beq i j with
    | true => v :: tl (i + 1) n r
    | false => .und :: tl (i + 1) n ((j, v) :: r)
end Go.LS

/- Code and functions: what LS's run says of the machine's. -/
import Derived.Test.YthiilhepneddpaaLsRun
set_option linter.unusedVariables false
set_option linter.unusedSimpArgs false
namespace Go.LS

/-- A region that draws, and what LS does in its place. -/
def DrawnR (P : Program) (ops : Array Oper) (los : List DOp) : Prop :=
  ∀ call, CallOK P call → ∀ t st t' st' G w a (Q : Exit → Act → World → Prop) id, runDrawn call los [] t st = some (t', st') → WR G st w → TR G t a →
    (∀ a' w' G', WR G' st' w' → TR G' t' a' → Ext0 G st w G' st' w' → a'.defers = a.defers → Q .normal a' w') → (Code.region id ops true).wp P Q a w

inductive CR (P : Program) : Code → LCode → Prop where
  | skip : CR P .skip .skip
  | region (id : Nat) {ops : Array Oper} {rs : Nat → Bool} {los : List LOper} (h : compOps P rs ops 0 ops.toList = some los) : CR P (.region id ops false) (.region los)
  | drawn (id : Nat) {ops : Array Oper} {los : List DOp} (h : DrawnR P ops los) : CR P (.region id ops true) (.drawn los)
  | seq {a b : Code} {la lb : LCode} (h1 : CR P a la) (h2 : CR P b lb) : CR P (.seq a b) (.seq la lb)
  | cond {x : Operand} {y : LX} {a b : Code} {la lb : LCode} (hx : compX x = some y) (h1 : CR P a la) (h2 : CR P b lb) : CR P (.cond x a b) (.cond y la lb)
  | both {r : Code} {x : Operand} {y : LX} {a b c : Code} {lr la lb lc : LCode} (hx : compX x = some y) (hr : CR P r lr) (h1 : CR P a la) (h2 : CR P b lb) (h3 : CR P c lc) : CR P (.seq (.seq r (.cond x a b)) c) (.seq lr (.both y la lb lc))
  | block (id : Nat) (mask : List Bool) {c : Code} {lc : LCode} (h : CR P c lc) : CR P (.block id c) (.block id mask lc)
  | loop (mask : List Bool) {c : Code} {lc : LCode} (h : CR P c lc) : CR P (.loop c) (.loop mask lc)
  | exit (id : Nat) (mask : List Bool) : CR P (.exit id) (.exit id mask)
  | ret (mask : List Bool) : CR P .ret (.ret mask)
  | fail (c : Code) : CR P c .fail

def outR : LOut → Exit → Prop
  | .normal, .normal => True
  | .exit i, .exit j => i = j
  | .ret, .ret => True
  | _, _ => False

theorem kill_len : ∀ (m : List Bool) (t : List LV), (kill m t).length = t.length
  | true :: m, v :: t => by simp [kill, kill_len m t]
  | false :: m, v :: t => by simp [kill, kill_len m t]
  | [], t => by cases t <;> simp [kill]
  | true :: _, [] => by simp [kill]
  | false :: _, [] => by simp [kill]

theorem kill_get : ∀ (m : List Bool) (t : List LV) (i : Nat) v, (kill m t)[i]? = some v → v = .und ∨ t[i]? = some v
  | true :: m, x :: t, i, v, h => by
    simp only [kill] at h
    cases i with
    | zero => simp at h; simp [h]
    | succ i => simp at h; simpa using kill_get m t i v h
  | false :: m, x :: t, i, v, h => by
    simp only [kill] at h
    cases i with
    | zero => simp at h; simp [h]
    | succ i => simp at h; simpa using kill_get m t i v h
  | [], t, i, v, h => by cases t <;> simp_all [kill]
  | true :: _, [], i, v, h => by simp [kill] at h
  | false :: _, [], i, v, h => by simp [kill] at h

theorem TR.kill {G : Gh} {t : List LV} {a : Act} (h : TR G t a) (m : List Bool) : TR G (kill m t) a :=
  ⟨by rw [kill_len]; exact h.1, fun i v hv => by
    rcases kill_get m t i v hv with rfl | h'
    · exact .und _
    · exact h.2 i v h'⟩

section
variable {P : Program} {call : CallF}

theorem VL.anyb_inv {G : Gh} {u : Value} (h : VL G .anyb u) : ∃ b, u = .bool b := by cases h; exact ⟨_, rfl⟩

theorem exec_sound (hok : CallOK P call) {G0 : Gh} {st0 : List LObj} {w0 : World} (hd : ∀ o, st0.length ≤ o → G0.loc o = none ∧ ∀ f, G0.hist o f = none) :
    ∀ (n : Nat) {c : Code} {lc : LCode} {out : LOut} {t t' : List LV} {st st' : List LObj} {G : Gh} {w : World} {a : Act} {Q : Exit → Act → World → Prop},
    CR P c lc → exec call st0.length n lc t st = some (out, t', st') → WR G st w → TR G t a → Ext0 G0 st0 w0 G st w →
    (∀ e a' w' G', outR out e → WR G' st' w' → TR G' t' a' → Ext0 G0 st0 w0 G' st' w' → a'.defers = a.defers → Q e a' w') → c.wp P Q a w := by
  intro n
  induction n using Nat.strongRecOn with
  | _ n ih =>
    intro c lc out t t' st st' G w a Q hcr he h ht hx hq
    cases n with
    | zero => simp [exec] at he
    | succ n =>
      cases hcr with
      | skip =>
        simp only [exec, Option.some.injEq, Prod.mk.injEq] at he
        obtain ⟨rfl, rfl, rfl⟩ := he
        exact wp_skip (hq .normal a w G trivial h ht hx rfl)
      | fail => simp [exec] at he
      | exit id mask =>
        simp only [exec, Option.some.injEq, Prod.mk.injEq] at he
        obtain ⟨rfl, rfl, rfl⟩ := he
        exact wp_exit (hq (.exit id) a w G rfl h (ht.kill mask) hx rfl)
      | ret mask =>
        simp only [exec, Option.some.injEq, Prod.mk.injEq] at he
        obtain ⟨rfl, rfl, rfl⟩ := he
        exact wp_ret (hq .ret a w G trivial h (ht.kill mask) hx rfl)
      | region id hc =>
        rename_i ops rs los
        simp only [exec] at he
        split at he
        · rename_i t1 st1 hr
          cases he
          refine wp_region ?_
          have := ops_sound (P := P) (Q := Q) hok ops.toList 0 los (by intro i; simp) hc hr h ht (fun a' w' G' g1 g2 g3 g4 => hq .normal a' w' G' trivial g1 g2 (hx.trans g3) g4)
          rw [List.range_eq_range']
          simpa using this
        · cases he
      | drawn id hdr =>
        simp only [exec] at he
        split at he
        · rename_i t1 st1 hr
          cases he
          exact hdr call hok _ _ _ _ G w a Q id hr h ht (fun a' w' G' g1 g2 g3 g4 => hq .normal a' w' G' trivial g1 g2 (hx.trans g3) g4)
        · cases he
      | seq h1 h2 =>
        rename_i ca cb la lb
        have go : ∀ {ca : Code} {la : LCode}, CR P ca la → cont2 (exec call st0.length n la t st) (exec call st0.length n lb) = some (out, t', st') → ca.wp P (Exit.then (cb.wp P Q) Q) a w := by
          intro ca la h1 he
          unfold cont2 at he
          cases hr : exec call st0.length n la t st with
          | none => rw [hr] at he; cases he
          | some r =>
            obtain ⟨o1, t1, st1⟩ := r
            rw [hr] at he
            refine ih n (by omega) h1 hr h ht hx ?_
            intro e a1 w1 G1 ho g1 g2 g3 g4
            cases o1 with
            | normal =>
              cases e <;> simp [outR] at ho
              simp only [Exit.then]
              exact ih n (by omega) h2 he g1 g2 g3 (fun e a' w' G' k1 k2 k3 k4 k5 => hq e a' w' G' k1 k2 k3 k4 (k5.trans g4))
            | exit i =>
              cases he
              cases e <;> simp [outR] at ho
              subst ho
              exact hq (.exit i) a1 w1 G1 rfl g1 g2 g3 g4
            | ret =>
              cases he
              cases e <;> simp [outR] at ho
              exact hq .ret a1 w1 G1 trivial g1 g2 g3 g4
        simp only [exec] at he
        exact wp_seq (go h1 he)
      | both hxx hr h1 h2 h3 =>
        rename_i cr xo y ca cb cc lr la lb lc
        simp only [exec] at he
        refine wp_seq (wp_seq ?_)
        unfold cont2 at he
        cases hre : exec call st0.length n lr t st with
        | none => rw [hre] at he; cases he
        | some r =>
          obtain ⟨o1, t1, st1⟩ := r
          rw [hre] at he
          refine ih n (by omega) hr hre h ht hx ?_
          intro e a1 w1 G1 ho g1 g2 g3 g4
          cases o1 with
          | exit i =>
            cases he
            cases e <;> simp [outR] at ho
            subst ho
            exact hq (.exit i) a1 w1 G1 rfl g1 g2 g3 g4
          | ret =>
            cases he
            cases e <;> simp [outR] at ho
            exact hq .ret a1 w1 G1 trivial g1 g2 g3 g4
          | normal =>
            cases e <;> simp [outR] at ho
            simp only [Exit.then]
            cases n with
            | zero => simp [exec] at he
            | succ n =>
              have go : ∀ {cz : Code} {lz : LCode}, CR P cz lz → cont2 (exec call st0.length n lz t1 st1) (exec call st0.length n lc) = some (out, t', st') → cz.wp P (Exit.then (cc.wp P Q) Q) a1 w1 := by
                intro cz lz hz he
                unfold cont2 at he
                cases hrz : exec call st0.length n lz t1 st1 with
                | none => rw [hrz] at he; cases he
                | some rz =>
                  obtain ⟨o2, t2, st2⟩ := rz
                  rw [hrz] at he
                  refine ih n (by omega) hz hrz g1 g2 g3 ?_
                  intro e2 a2 w2 G2 ho2 k1 k2 k3 k4
                  cases o2 with
                  | normal =>
                    cases e2 <;> simp [outR] at ho2
                    simp only [Exit.then]
                    exact ih n (by omega) h3 he k1 k2 k3 (fun e a' w' G' m1 m2 m3 m4 m5 => hq e a' w' G' m1 m2 m3 m4 (m5.trans (k4.trans g4)))
                  | exit i =>
                    cases he
                    cases e2 <;> simp [outR] at ho2
                    subst ho2
                    exact hq (.exit i) a2 w2 G2 rfl k1 k2 k3 (k4.trans g4)
                  | ret =>
                    cases he
                    cases e2 <;> simp [outR] at ho2
                    exact hq .ret a2 w2 G2 trivial k1 k2 k3 (k4.trans g4)
              have fin : ∀ {cz : Code}, cz.wp P (Exit.then (cc.wp P Q) Q) a1 w1 → cz.wp P (Exit.then (cc.wp P Q) (Exit.then (cc.wp P Q) Q)) a1 w1 := fun hz => wp_mono hz (fun e a w he => by cases e <;> exact he)
              simp only [exec] at he
              have hv := g2.xs (.move xo) xo (by simp [Op.operands]) _ hxx
              split at he
              · rename_i hb
                rw [hb] at hv
                exact wp_cond_true hv.bool_inv (go h1 he)
              · rename_i hb
                rw [hb] at hv
                exact wp_cond_false hv.bool_inv (go h2 he)
              · rename_i hb
                rw [hb] at hv
                obtain ⟨e1, e2⟩ := both_eq he
                obtain ⟨b, hu⟩ := hv.anyb_inv
                cases b
                · exact wp_cond_false hu (go h2 e2)
                · exact wp_cond_true hu (go h1 e1)
              · cases he
      | cond hxx h1 h2 =>
        rename_i xo y ca cb la lb
        simp only [exec] at he
        have hv := ht.xs (.move xo) xo (by simp [Op.operands]) _ hxx
        split at he
        · rename_i hb
          rw [hb] at hv
          exact wp_cond_true hv.bool_inv (ih n (by omega) h1 he h ht hx hq)
        · rename_i hb
          rw [hb] at hv
          exact wp_cond_false hv.bool_inv (ih n (by omega) h2 he h ht hx hq)
        · rename_i hb
          rw [hb] at hv
          obtain ⟨e1, e2⟩ := both_eq he
          obtain ⟨b, hu⟩ := hv.anyb_inv
          cases b
          · exact wp_cond_false hu (ih n (by omega) h2 e2 h ht hx hq)
          · exact wp_cond_true hu (ih n (by omega) h1 e1 h ht hx hq)
        · cases he
      | block id mask h1 =>
        rename_i ca la
        simp only [exec] at he
        refine wp_block ?_
        cases hr : exec call st0.length n la t st with
        | none => rw [hr] at he; cases he
        | some r =>
          obtain ⟨o1, t1, st1⟩ := r
          rw [hr] at he
          refine ih n (by omega) h1 hr h ht hx ?_
          intro e a1 w1 G1 ho g1 g2 g3 g4
          cases o1 with
          | normal =>
            cases he
            cases e <;> simp [outR] at ho
            exact hq .normal a1 w1 G1 trivial g1 (g2.kill mask) g3 g4
          | exit i =>
            simp only at he
            cases e <;> simp [outR] at ho
            subst ho
            simp only [Exit.inBlock]
            split at he
            · rename_i e; cases he; rw [if_pos e]; exact hq .normal a1 w1 G1 trivial g1 (g2.kill mask) g3 g4
            · rename_i e; cases he; rw [if_neg e]; exact hq (.exit i) a1 w1 G1 rfl g1 g2 g3 g4
          | ret =>
            cases he
            cases e <;> simp [outR] at ho
            exact hq .ret a1 w1 G1 trivial g1 g2 g3 g4
      | loop mask h1 =>
        rename_i ca la
        have key : ∀ m, m ≤ n + 1 → ∀ {t : List LV} {st : List LObj} {G : Gh} {w : World} {a' : Act}, exec call st0.length m (.loop mask la) t st = some (out, t', st') → WR G st w → TR G t a' → Ext0 G0 st0 w0 G st w →
            a'.defers = a.defers → Code.rounds P ca Q m a' w := by
          intro m
          induction m with
          | zero => intro _ t st G w a' he; simp [exec] at he
          | succ m ihm =>
            intro hm t st G w a' he h ht hx hdf
            rw [rounds_succ]
            simp only [exec] at he
            split at he
            · rename_i t2 st2 hg
              have g2' := ht.kill mask
              obtain ⟨G2, q1, q2, q3, q4⟩ := gc_sound h hx hd hg (us := a'.tmps.toList) (by simpa using g2'.1) (fun i v u hv hu => by
                have := g2'.2 i v hv
                simp at hu
                rwa [getD_some hu] at this)
              have ht2 : TR G2 t2 a' := ⟨by rw [q3]; exact g2'.1, fun i v hv => by
                have hlt : i < a'.tmps.size := by
                  have h1 := (List.getElem?_eq_some_iff.1 hv).1
                  have h2 := g2'.1
                  omega
                have := q4 i v a'.tmps[i] hv (by simp [hlt])
                simpa [hlt] using this⟩
              cases hr : exec call st0.length m la t2 st2 with
              | none => rw [hr] at he; cases he
              | some r =>
                obtain ⟨o1, t1, st1⟩ := r
                rw [hr] at he
                refine ih m (by omega) h1 hr q1 ht2 q2 ?_
                intro e a1 w1 G1 ho g1 g2 g3 g4
                cases o1 with
                | normal =>
                  cases e <;> simp [outR] at ho
                  simp only [Exit.then]
                  exact ihm (by omega) he g1 g2 g3 (g4.trans hdf)
                | exit i =>
                  cases he
                  cases e <;> simp [outR] at ho
                  subst ho
                  exact hq (.exit i) a1 w1 G1 rfl g1 g2 g3 (g4.trans hdf)
                | ret =>
                  cases he
                  cases e <;> simp [outR] at ho
                  exact hq .ret a1 w1 G1 trivial g1 g2 g3 (g4.trans hdf)
            · cases he
        exact wp_loop_rounds (n + 1) (key (n + 1) (Nat.le_refl _) he h ht hx rfl)

/-! Functions. -/
def compRes (P : Program) : List ResultVar → Option (List LRes)
  | [] => some []
  | .tmp t :: r => match compRes P r with
    | some l => some (.tmp t :: l)
    | none => none
  | .cell t ty :: r => match tyOf P ty, compRes P r with
    | some (agg, n), some l => if agg = true ∨ n = 1 then some (.cell t agg n :: l) else none
    | _, _ => none

/-- A function of LS is the loaded one. -/
structure FR (P : Program) (f : FuncId) (lf : LFn) : Prop where
  fn : ∃ fn c, P.funcs[f]? = some fn ∧ fn.body = some c ∧ fn.ntmps = lf.ntmps ∧ CR P c lf.body ∧ compRes P fn.results.toList = some lf.results
  plain : plainFn P f = true

def resF (tmps : Array Value) : ResultVar → Sem Value
  | .tmp t => pure (tmps.getD t undef)
  | .cell x ty => do loadVar ty (← asAddr (tmps.getD x undef))

theorem results_eq (fn : Func) (tmps : Array Value) : results fn tmps = (do let vs ← fn.results.mapM (resF tmps); pure (if h : vs.size = 1 then vs[0] else .tuple vs)) := by
  unfold results
  congr 1

theorem res_sound {G : Gh} {st : List LObj} {w : World} {t : List LV} {a : Act} (h : WR G st w) (ht : TR G t a) : ∀ {rs : List ResultVar} {ls : List LRes} {vs : List LV}, compRes P rs = some ls → evRes t st ls = some vs →
    ∃ us, (rs.mapM (resF a.tmps)).run P w = .ok us w ∧ us.length = vs.length ∧ ∀ (i : Nat) v u, vs[i]? = some v → us[i]? = some u → VL G v u
  | [], ls, vs, hc, he => by
    simp only [compRes] at hc; cases hc
    simp only [evRes] at he; cases he
    exact ⟨[], by simp [List.mapM_nil], rfl, by simp⟩
  | .tmp x :: rs, ls, vs, hc, he => by
    simp only [compRes] at hc
    split at hc
    · rename_i l hl
      cases hc
      simp only [evRes] at he
      split at he
      · rename_i vl hvl
        cases he
        obtain ⟨us, h1, h2, h3⟩ := res_sound h ht hl hvl
        refine ⟨a.tmps.getD x undef :: us, ?_, by simp [h2], fun i v u hv hu => ?_⟩
        · rw [List.mapM_cons]
          simp only [resF, Sem.run_bind, Sem.run_pure, Result.andThen_ok]
          rw [h1]
          rfl
        · cases i with
          | zero => simp only [List.getElem?_cons_zero, Option.some.injEq] at hv hu; subst hv; subst hu; exact ht.get x
          | succ i => simp at hv hu; exact h3 i v u hv hu
      · cases he
    · cases hc
  | .cell x ty :: rs, ls, vs, hc, he => by
    simp only [compRes] at hc
    split at hc
    · rename_i agg n l hty hl
      split at hc
      · rename_i hn
        cases hc
        simp only [evRes] at he
        split at he
        · rename_i cs hcs
          split at he
          · rename_i v vl hv hvl
            cases he
            obtain ⟨us, h1, h2, h3⟩ := res_sound h ht hl hvl
            obtain ⟨ad, z, hu, hr, hz⟩ := run_load (P := P) h hty hn hcs hv (ht.get x)
            refine ⟨z :: us, ?_, by simp [h2], fun i v' u hv' hu' => ?_⟩
            · rw [List.mapM_cons]
              simp only [resF, Sem.run_bind, hu, asAddr, Sem.run_pure, Result.andThen_ok, hr]
              rw [h1]
              rfl
            · cases i with
              | zero => simp only [List.getElem?_cons_zero, Option.some.injEq] at hv' hu'; subst hv'; subst hu'; exact hz
              | succ i => simp at hv' hu'; exact h3 i v' u hv' hu'
          · cases he
        · cases he
      · cases hc
    · cases hc

/-- What a summary must be. -/
def SummOK (P : Program) (f : FuncId) (g : List LV → List LObj → Option (LV × List LObj)) : Prop :=
  plainFn P f = true ∧ ∀ args st res st', g args st = some (res, st') → ∀ G w us, WR G st w → ArgsR G args us →
    Calls P f us w fun e w' => ∃ u G', e = .returned u ∧ WR G' st' w' ∧ VL G' res u ∧ Ext0 G st w G' st' w'

structure PR (P : Program) (lp : LProg) : Prop where
  fns : ∀ f lf, lp.fns f = some lf → FR P f lf
  summ : ∀ f g, lp.summ f = some g → SummOK P f g

theorem oneRes_sound {G : Gh} {vs : List LV} {us : List Value} (hl : us.length = vs.length) (h : ∀ (i : Nat) v u, vs[i]? = some v → us[i]? = some u → VL G v u) :
    VL G (oneRes vs) (if h : us.toArray.size = 1 then us.toArray[0] else .tuple us.toArray) := by
  have htup : VL G (.tup vs) (.tuple us.toArray) := .tup _ (by simpa using hl) fun i x hx => by
    have hi : i < us.length := by rw [hl]; exact (List.getElem?_eq_some_iff.1 hx).1
    have := h i x us[i] hx (by simp [hi])
    simpa [hi] using this
  match vs, us, hl with
  | [], [], _ => simpa [oneRes] using htup
  | [v], [u], _ => simpa [oneRes] using h 0 v u rfl rfl
  | v :: v' :: vs, u :: u' :: us, _ => simpa [oneRes] using htup

theorem VL.weak1 {G : Gh} {v : LV} {u : Value} (h : VL G v u) : VL G v.weak1 u := by
  cases h with
  | sl h _ _ _ => exact .p h
  | tight h => exact .p h
  | und => exact .und _
  | anyb b => exact .anyb b
  | p h => exact .p h
  | gr a b c => exact .gr a b c
  | ptr h => exact .ptr h
  | pin a b c => exact .pin a b c
  | rs a b c d => exact .rs a b c d
  | mp h => exact .mp h
  | it h => exact .it h
  | fn f a b c d e g => exact .fn f a b c d e g
  | ifc t h => exact .ifc t h
  | agg a b c d => exact .agg a b c d
  | tup a b c => exact .tup a b c
theorem VL.weak {G : Gh} {v : LV} {u : Value} (h : VL G v u) : VL G v.weak u := by
  cases v
  case agg cs =>
    cases h with
    | agg vs h1 h2 h3 =>
      refine .agg vs (by simp [h1]) h2 (fun i x hx => ?_)
      rw [List.getElem?_map] at hx
      cases hy : cs[i]? with
      | none => simp [hy] at hx
      | some y => simp [hy] at hx; subst hx; exact (h3 i y hy).weak1
  all_goals exact h.weak1
theorem wk_len (b : Bool) (args : List LV) : (wk b args).length = args.length := by cases b <;> simp [wk]
theorem ArgsR.wk {G : Gh} {args : List LV} {us : Array Value} (h : ArgsR G args us) (b : Bool) : ArgsR G (wk b args) us := by
  cases b
  · exact h
  · refine ⟨by rw [wk_len]; exact h.1, fun i v hv => ?_⟩
    simp only [LS.wk, List.getElem?_map] at hv
    cases hy : args[i]? with
    | none => simp [hy] at hv
    | some y => simp [hy] at hv; subst hv; exact (h.2 i y hy).weak

theorem runF_sound {lp : LProg} (hp : PR P lp) : ∀ n, CallOK P (runF lp n) := by
  intro n
  induction n with
  | zero => intro f args st res st' h; simp [runF] at h
  | succ n ih =>
    intro f args st res st' hr
    simp only [runF] at hr
    split at hr
    · rename_i g hg
      have := hp.summ f g hg
      exact ⟨this.1, fun G w us h ha => this.2 _ _ _ _ hr G w us h ha⟩
    · split at hr
      · cases hr
      · rename_i lf hlf
        obtain ⟨⟨fn, c, hf, hb, hnt, hcr, hres⟩, hpl⟩ := hp.fns f lf hlf
        refine ⟨hpl, fun G w us h ha => ?_⟩
        refine calls_of_wp hf hb ?_
        replace ha := ha.wk (lp.weak f)
        rw [← wk_len (lp.weak f) args] at hr
        revert ha hr
        generalize LS.wk (lp.weak f) args = args
        intro hr ha
        have ht : TR G (args ++ List.replicate (lf.ntmps - args.length) .und) { tmps := us ++ Array.replicate (fn.ntmps - us.size) undef, defers := [] } := by
          refine ⟨by simp [ha.1, hnt], fun i v hv => ?_⟩
          by_cases hi : i < args.length
          · rw [List.getElem?_append_left hi] at hv
            have := ha.2 i v hv
            rw [Array.getD_eq_getD_getElem?, Array.getElem?_append_left (by rw [ha.1]; exact hi), ← Array.getD_eq_getD_getElem?]
            exact this
          · rw [List.getElem?_append_right (by omega), List.getElem?_replicate] at hv
            split at hv
            · cases hv; exact .und _
            · cases hv
        split at hr
        · cases hr
        · rename_i out t1 st1 hne hex
          split at hr
          · rename_i vs hvs
            split at hr
            · rename_i vs' st2 hgc
              simp only [Option.some.injEq, Prod.mk.injEq] at hr
              obtain ⟨hre, hse⟩ := hr
              subst hse
              subst hre
              refine exec_sound ih (G0 := G) (st0 := st) (w0 := w) h.dom n hcr hex h ht (Ext.refl ..).to0 ?_
              intro e a' w' G' ho g1 g2 g3 g4
              obtain ⟨us', q1, q2, q3⟩ := res_sound (P := P) g1 g2 hres hvs
              obtain ⟨G2, k1, k2, k3, k4⟩ := gc_sound g1 g3 h.dom hgc q2 q3
              have hrun : (results fn a'.tmps).run P w' = .ok (if h : us'.toArray.size = 1 then us'.toArray[0] else .tuple us'.toArray) w' := by
                rw [results_eq]
                have e : fn.results = fn.results.toList.toArray := by simp
                rw [e, List.mapM_toArray, ← bind_pure_comp]
                simp only [Sem.run_bind, q1, Result.andThen_ok, Sem.run_pure]
              have hfin : bodyPost P fn (fun e w' => ∃ u G', e = .returned u ∧ WR G' st2 w' ∧ VL G' (oneRes vs') u ∧ Ext0 G st w G' st2 w') .ret a' w' :=
                ⟨g4, _, hrun, _, G2, rfl, k1, oneRes_sound (by rw [q2, k3]) k4, k2⟩
              cases out with
              | normal => cases e <;> simp [outR] at ho; exact hfin
              | ret => cases e <;> simp [outR] at ho; exact hfin
              | exit i => exact (hne i rfl).elim
            · cases hr
          · cases hr
        · cases hr

end
end Go.LS

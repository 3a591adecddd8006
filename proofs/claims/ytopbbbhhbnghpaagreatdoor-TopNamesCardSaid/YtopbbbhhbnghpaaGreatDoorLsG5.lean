/- A small semantics of loaded Go code that the kernel can run, part 5. -/
import Derived.Test.YtopbbbhhbnghpaaGreatDoorLsG4
import Derived.Lib.Bytealg
import Derived.Sort.KeysCollected
import Derived.Sort.EncStr
import Derived.Maps.Range
import Derived.Maps.Own
import Derived.Maps.Views
import Derived.WideReads
import Derived.StringKeys
import Derived.Below
import Derived.Test.YtopbbbhhbnghpaaGreatDoorLsG1
set_option linter.unusedVariables false
set_option linter.unusedSimpArgs false
namespace Go.LS
def DrawnR (P : Program) (ops : Array Oper) (los : List DOp) : Prop :=
  ∀ call, CallOK P call → ∀ t st t' st' G w a (Q : Exit → Act → World → Prop) id, runDrawn call los [] t st = some (t', st') → WR G st w → TR G t a →
    (∀ a' w' G', WR G' st' w' → TR G' t' a' → Ext0 G st w G' st' w' → a'.defers = a.defers → Q .normal a' w') → (Code.region id ops true).wp P Q a w
inductive CR (P : Program) : Code → LCode → Prop where
  | skip : CR P .skip .skip
  | region (id : Nat) {ops : Array Oper} {rs : Nat → Bool} {los : List LOper} (h : compOps P rs ops 0 ops.toList = some los) : CR P (.region id ops false) (.region los)
  | drawn (id : Nat) {ops : Array Oper} {los : List DOp} (h : DrawnR P ops los) : CR P (.region id ops true) (.drawn los)
  | seq {a b : Code} {la lb : LCode} (h1 : CR P a la) (h2 : CR P b lb) : CR P (.seq a b) (.seq la lb)
  | cond {x : Operand} {y : LX} {a b : Code} {la lb : LCode} (hx : compX x = some y) (h1 : CR P a la) (h2 : CR P b lb) : CR P (.cond x a b) (.cond y la lb)
  | both {r : Code} {x : Operand} {y : LX} {a b c : Code} {lr la lb lc : LCode} (hx : compX x = some y) (hr : CR P r lr) (h1 : CR P a la) (h2 : CR P b lb) (h3 : CR P c lc) : CR P (.seq (.seq r (.cond x a b)) c) (.seq lr (.both y la lb lc))
  | block (id : Nat) (mask : List Bool) {c : Code} {lc : LCode} (h : CR P c lc) : CR P (.block id c) (.block id mask lc)
  | loop (mask : List Bool) {c : Code} {lc : LCode} (h : CR P c lc) : CR P (.loop c) (.loop mask lc)
  | exit (id : Nat) (mask : List Bool) : CR P (.exit id) (.exit id mask)
  | ret (mask : List Bool) : CR P .ret (.ret mask)
  | fail (c : Code) : CR P c .fail
def outR : LOut → Exit → Prop
  | .normal, .normal => True
  | .exit i, .exit j => i = j
  | .ret, .ret => True
  | _, _ => False
theorem kill_len : ∀ (m : List Bool) (t : List LV), (kill m t).length = t.length
  | true :: m, v :: t => by simp [kill, kill_len m t]
  | false :: m, v :: t => by simp [kill, kill_len m t]
  | [], t => by cases t <;> simp [kill]
  | true :: _, [] => by simp [kill]
  | false :: _, [] => by simp [kill]
theorem kill_get : ∀ (m : List Bool) (t : List LV) (i : Nat) v, (kill m t)[i]? = some v → v = .und ∨ t[i]? = some v
  | true :: m, x :: t, i, v, h => by
    simp only [kill] at h
    cases i with
    | zero => simp at h; simp [h]
    | succ i => simp at h; simpa using kill_get m t i v h
  | false :: m, x :: t, i, v, h => by
    simp only [kill] at h
    cases i with
    | zero => simp at h; simp [h]
    | succ i => simp at h; simpa using kill_get m t i v h
  | [], t, i, v, h => by cases t <;> simp_all [kill]
  | true :: _, [], i, v, h => by simp [kill] at h
  | false :: _, [], i, v, h => by simp [kill] at h
theorem TR.kill {G : Gh} {t : List LV} {a : Act} (h : TR G t a) (m : List Bool) : TR G (kill m t) a :=
  ⟨by rw [kill_len]; exact h.1, fun i v hv => by
    rcases kill_get m t i v hv with rfl | h'
    · exact .und _
    · exact h.2 i v h'⟩
section
variable {P : Program} {call : CallF}
theorem VL.anyb_inv {G : Gh} {u : Value} (h : VL G .anyb u) : ∃ b, u = .bool b := by cases h; exact ⟨_, rfl⟩
theorem exec_sound (hok : CallOK P call) {G0 : Gh} {st0 : List LObj} {w0 : World} (hd : ∀ o, st0.length ≤ o → G0.loc o = none ∧ ∀ f, G0.hist o f = none) :
    ∀ (n : Nat) {c : Code} {lc : LCode} {out : LOut} {t t' : List LV} {st st' : List LObj} {G : Gh} {w : World} {a : Act} {Q : Exit → Act → World → Prop},
    CR P c lc → exec call st0.length n lc t st = some (out, t', st') → WR G st w → TR G t a → Ext0 G0 st0 w0 G st w →
    (∀ e a' w' G', outR out e → WR G' st' w' → TR G' t' a' → Ext0 G0 st0 w0 G' st' w' → a'.defers = a.defers → Q e a' w') → c.wp P Q a w := by
  intro n
  induction n using Nat.strongRecOn with
  | _ n ih =>
    intro c lc out t t' st st' G w a Q hcr he h ht hx hq
    cases n with
    | zero => simp [exec] at he
    | succ n =>
      cases hcr with
      | skip =>
        simp only [exec, Option.some.injEq, Prod.mk.injEq] at he
        obtain ⟨rfl, rfl, rfl⟩ := he
        exact wp_skip (hq .normal a w G trivial h ht hx rfl)
      | fail => simp [exec] at he
      | exit id mask =>
        simp only [exec, Option.some.injEq, Prod.mk.injEq] at he
        obtain ⟨rfl, rfl, rfl⟩ := he
        exact wp_exit (hq (.exit id) a w G rfl h (ht.kill mask) hx rfl)
      | ret mask =>
        simp only [exec, Option.some.injEq, Prod.mk.injEq] at he
        obtain ⟨rfl, rfl, rfl⟩ := he
        exact wp_ret (hq .ret a w G trivial h (ht.kill mask) hx rfl)
      | region id hc =>
        rename_i ops rs los
        simp only [exec] at he
        split at he
        · rename_i t1 st1 hr
          cases he
          refine wp_region ?_
          have := ops_sound (P := P) (Q := Q) hok ops.toList 0 los (by intro i; simp) hc hr h ht (fun a' w' G' g1 g2 g3 g4 => hq .normal a' w' G' trivial g1 g2 (hx.trans g3) g4)
          rw [List.range_eq_range']
          simpa using this
        · cases he
      | drawn id hdr =>
        simp only [exec] at he
        split at he
        · rename_i t1 st1 hr
          cases he
          exact hdr call hok _ _ _ _ G w a Q id hr h ht (fun a' w' G' g1 g2 g3 g4 => hq .normal a' w' G' trivial g1 g2 (hx.trans g3) g4)
        · cases he
      | seq h1 h2 =>
        rename_i ca cb la lb
        have go : ∀ {ca : Code} {la : LCode}, CR P ca la → cont2 (exec call st0.length n la t st) (exec call st0.length n lb) = some (out, t', st') → ca.wp P (Exit.then (cb.wp P Q) Q) a w := by
          intro ca la h1 he
          unfold cont2 at he
          cases hr : exec call st0.length n la t st with
          | none => rw [hr] at he; cases he
          | some r =>
            obtain ⟨o1, t1, st1⟩ := r
            rw [hr] at he
            refine ih n (by omega) h1 hr h ht hx ?_
            intro e a1 w1 G1 ho g1 g2 g3 g4
            cases o1 with
            | normal =>
              cases e <;> simp [outR] at ho
              simp only [Exit.then]
              exact ih n (by omega) h2 he g1 g2 g3 (fun e a' w' G' k1 k2 k3 k4 k5 => hq e a' w' G' k1 k2 k3 k4 (k5.trans g4))
            | exit i =>
              cases he
              cases e <;> simp [outR] at ho
              subst ho
              exact hq (.exit i) a1 w1 G1 rfl g1 g2 g3 g4
            | ret =>
              cases he
              cases e <;> simp [outR] at ho
              exact hq .ret a1 w1 G1 trivial g1 g2 g3 g4
        simp only [exec] at he
        exact wp_seq (go h1 he)
      | both hxx hr h1 h2 h3 =>
        rename_i cr xo y ca cb cc lr la lb lc
        simp only [exec] at he
        refine wp_seq (wp_seq ?_)
        unfold cont2 at he
        cases hre : exec call st0.length n lr t st with
        | none => rw [hre] at he; cases he
        | some r =>
          obtain ⟨o1, t1, st1⟩ := r
          rw [hre] at he
          refine ih n (by omega) hr hre h ht hx ?_
          intro e a1 w1 G1 ho g1 g2 g3 g4
          cases o1 with
          | exit i =>
            cases he
            cases e <;> simp [outR] at ho
            subst ho
            exact hq (.exit i) a1 w1 G1 rfl g1 g2 g3 g4
          | ret =>
            cases he
            cases e <;> simp [outR] at ho
            exact hq .ret a1 w1 G1 trivial g1 g2 g3 g4
          | normal =>
            cases e <;> simp [outR] at ho
            simp only [Exit.then]
            cases n with
            | zero => simp [exec] at he
            | succ n =>
              have go : ∀ {cz : Code} {lz : LCode}, CR P cz lz → cont2 (exec call st0.length n lz t1 st1) (exec call st0.length n lc) = some (out, t', st') → cz.wp P (Exit.then (cc.wp P Q) Q) a1 w1 := by
                intro cz lz hz he
                unfold cont2 at he
                cases hrz : exec call st0.length n lz t1 st1 with
                | none => rw [hrz] at he; cases he
                | some rz =>
                  obtain ⟨o2, t2, st2⟩ := rz
                  rw [hrz] at he
                  refine ih n (by omega) hz hrz g1 g2 g3 ?_
                  intro e2 a2 w2 G2 ho2 k1 k2 k3 k4
                  cases o2 with
                  | normal =>
                    cases e2 <;> simp [outR] at ho2
                    simp only [Exit.then]
                    exact ih n (by omega) h3 he k1 k2 k3 (fun e a' w' G' m1 m2 m3 m4 m5 => hq e a' w' G' m1 m2 m3 m4 (m5.trans (k4.trans g4)))
                  | exit i =>
                    cases he
                    cases e2 <;> simp [outR] at ho2
                    subst ho2
                    exact hq (.exit i) a2 w2 G2 rfl k1 k2 k3 (k4.trans g4)
                  | ret =>
                    cases he
                    cases e2 <;> simp [outR] at ho2
                    exact hq .ret a2 w2 G2 trivial k1 k2 k3 (k4.trans g4)
              have fin : ∀ {cz : Code}, cz.wp P (Exit.then (cc.wp P Q) Q) a1 w1 → cz.wp P (Exit.then (cc.wp P Q) (Exit.then (cc.wp P Q) Q)) a1 w1 := fun hz => wp_mono hz (fun e a w he => by cases e <;> exact he)
              simp only [exec] at he
              have hv := g2.xs (.move xo) xo (by simp [Op.operands]) _ hxx
              split at he
              · rename_i hb
                rw [hb] at hv
                exact wp_cond_true hv.bool_inv (go h1 he)
              · rename_i hb
                rw [hb] at hv
                exact wp_cond_false hv.bool_inv (go h2 he)
              · rename_i hb
                rw [hb] at hv
                obtain ⟨e1, e2⟩ := both_eq he
                obtain ⟨b, hu⟩ := hv.anyb_inv
                cases b
                · exact wp_cond_false hu (go h2 e2)
                · exact wp_cond_true hu (go h1 e1)
              · cases he
      | cond hxx h1 h2 =>
        rename_i xo y ca cb la lb
        simp only [exec] at he
        have hv := ht.xs (.move xo) xo (by simp [Op.operands]) _ hxx
        split at he
        · rename_i hb
          rw [hb] at hv
          exact wp_cond_true hv.bool_inv (ih n (by omega) h1 he h ht hx hq)
        · rename_i hb
          rw [hb] at hv
          exact wp_cond_false hv.bool_inv (ih n (by omega) h2 he h ht hx hq)
        · rename_i hb
          rw [hb] at hv
          obtain ⟨e1, e2⟩ := both_eq he
          obtain ⟨b, hu⟩ := hv.anyb_inv
          cases b
          · exact wp_cond_false hu (ih n (by omega) h2 e2 h ht hx hq)
          · exact wp_cond_true hu (ih n (by omega) h1 e1 h ht hx hq)
        · cases he
      | block id mask h1 =>
        rename_i ca la
        simp only [exec] at he
        refine wp_block ?_
        cases hr : exec call st0.length n la t st with
        | none => rw [hr] at he; cases he
        | some r =>
          obtain ⟨o1, t1, st1⟩ := r
          rw [hr] at he
          refine ih n (by omega) h1 hr h ht hx ?_
          intro e a1 w1 G1 ho g1 g2 g3 g4
          cases o1 with
          | normal =>
            cases he
            cases e <;> simp [outR] at ho
            exact hq .normal a1 w1 G1 trivial g1 (g2.kill mask) g3 g4
          | exit i =>
            simp only at he
            cases e <;> simp [outR] at ho
            subst ho
            simp only [Exit.inBlock]
            split at he
            · rename_i e; cases he; rw [if_pos e]; exact hq .normal a1 w1 G1 trivial g1 (g2.kill mask) g3 g4
            · rename_i e; cases he; rw [if_neg e]; exact hq (.exit i) a1 w1 G1 rfl g1 g2 g3 g4
          | ret =>
            cases he
            cases e <;> simp [outR] at ho
            exact hq .ret a1 w1 G1 trivial g1 g2 g3 g4
      | loop mask h1 =>
        rename_i ca la
        have key : ∀ m, m ≤ n + 1 → ∀ {t : List LV} {st : List LObj} {G : Gh} {w : World} {a' : Act}, exec call st0.length m (.loop mask la) t st = some (out, t', st') → WR G st w → TR G t a' → Ext0 G0 st0 w0 G st w →
            a'.defers = a.defers → Code.rounds P ca Q m a' w := by
          intro m
          induction m with
          | zero => intro _ t st G w a' he; simp [exec] at he
          | succ m ihm =>
            intro hm t st G w a' he h ht hx hdf
            rw [rounds_succ]
            simp only [exec] at he
            split at he
            · rename_i t2 st2 hg
              have g2' := ht.kill mask
              obtain ⟨G2, q1, q2, q3, q4⟩ := gc_sound h hx hd hg (us := a'.tmps.toList) (by simpa using g2'.1) (fun i v u hv hu => by
                have := g2'.2 i v hv
                simp at hu
                rwa [getD_some hu] at this)
              have ht2 : TR G2 t2 a' := ⟨by rw [q3]; exact g2'.1, fun i v hv => by
                have hlt : i < a'.tmps.size := by
                  have h1 := (List.getElem?_eq_some_iff.1 hv).1
                  have h2 := g2'.1
                  omega
                have := q4 i v a'.tmps[i] hv (by simp [hlt])
                simpa [hlt] using this⟩
              cases hr : exec call st0.length m la t2 st2 with
              | none => rw [hr] at he; cases he
              | some r =>
                obtain ⟨o1, t1, st1⟩ := r
                rw [hr] at he
                refine ih m (by omega) h1 hr q1 ht2 q2 ?_
                intro e a1 w1 G1 ho g1 g2 g3 g4
                cases o1 with
                | normal =>
                  cases e <;> simp [outR] at ho
                  simp only [Exit.then]
                  exact ihm (by omega) he g1 g2 g3 (g4.trans hdf)
                | exit i =>
                  cases he
                  cases e <;> simp [outR] at ho
                  subst ho
                  exact hq (.exit i) a1 w1 G1 rfl g1 g2 g3 (g4.trans hdf)
                | ret =>
                  cases he
                  cases e <;> simp [outR] at ho
                  exact hq .ret a1 w1 G1 trivial g1 g2 g3 (g4.trans hdf)
            · cases he
        exact wp_loop_rounds (n + 1) (key (n + 1) (Nat.le_refl _) he h ht hx rfl)
def compRes (P : Program) : List ResultVar → Option (List LRes)
  | [] => some []
  | .tmp t :: r => match compRes P r with
    | some l => some (.tmp t :: l)
    | none => none
  | .cell t ty :: r => match tyOf P ty, compRes P r with
    | some (agg, n), some l => if agg = true ∨ n = 1 then some (.cell t agg n :: l) else none
    | _, _ => none
structure FR (P : Program) (f : FuncId) (lf : LFn) : Prop where
  fn : ∃ fn c, P.funcs[f]? = some fn ∧ fn.body = some c ∧ fn.ntmps = lf.ntmps ∧ CR P c lf.body ∧ compRes P fn.results.toList = some lf.results
  plain : plainFn P f = true
def resF (tmps : Array Value) : ResultVar → Sem Value
  | .tmp t => pure (tmps.getD t undef)
  | .cell x ty => do loadVar ty (← asAddr (tmps.getD x undef))
theorem results_eq (fn : Func) (tmps : Array Value) : results fn tmps = (do let vs ← fn.results.mapM (resF tmps); pure (if h : vs.size = 1 then vs[0] else .tuple vs)) := by
  unfold results
  congr 1
theorem res_sound {G : Gh} {st : List LObj} {w : World} {t : List LV} {a : Act} (h : WR G st w) (ht : TR G t a) : ∀ {rs : List ResultVar} {ls : List LRes} {vs : List LV}, compRes P rs = some ls → evRes t st ls = some vs →
    ∃ us, (rs.mapM (resF a.tmps)).run P w = .ok us w ∧ us.length = vs.length ∧ ∀ (i : Nat) v u, vs[i]? = some v → us[i]? = some u → VL G v u
  | [], ls, vs, hc, he => by
    simp only [compRes] at hc; cases hc
    simp only [evRes] at he; cases he
    exact ⟨[], by simp [List.mapM_nil], rfl, by simp⟩
  | .tmp x :: rs, ls, vs, hc, he => by
    simp only [compRes] at hc
    split at hc
    · rename_i l hl
      cases hc
      simp only [evRes] at he
      split at he
      · rename_i vl hvl
        cases he
        obtain ⟨us, h1, h2, h3⟩ := res_sound h ht hl hvl
        refine ⟨a.tmps.getD x undef :: us, ?_, by simp [h2], fun i v u hv hu => ?_⟩
        · rw [List.mapM_cons]
          simp only [resF, Sem.run_bind, Sem.run_pure, Result.andThen_ok]
          rw [h1]
          rfl
        · cases i with
          | zero => simp only [List.getElem?_cons_zero, Option.some.injEq] at hv hu; subst hv; subst hu; exact ht.get x
          | succ i => simp at hv hu; exact h3 i v u hv hu
      · cases he
    · cases hc
  | .cell x ty :: rs, ls, vs, hc, he => by
    simp only [compRes] at hc
    split at hc
    · rename_i agg n l hty hl
      split at hc
      · rename_i hn
        cases hc
        simp only [evRes] at he
        split at he
        · rename_i cs hcs
          split at he
          · rename_i v vl hv hvl
            cases he
            obtain ⟨us, h1, h2, h3⟩ := res_sound h ht hl hvl
            obtain ⟨ad, z, hu, hr, hz⟩ := run_load (P := P) h hty hn hcs hv (ht.get x)
            refine ⟨z :: us, ?_, by simp [h2], fun i v' u hv' hu' => ?_⟩
            · rw [List.mapM_cons]
              simp only [resF, Sem.run_bind, hu, asAddr, Sem.run_pure, Result.andThen_ok, hr]
              rw [h1]
              rfl
            · cases i with
              | zero => simp only [List.getElem?_cons_zero, Option.some.injEq] at hv' hu'; subst hv'; subst hu'; exact hz
              | succ i => simp at hv' hu'; exact h3 i v' u hv' hu'
          · cases he
        · cases he
      · cases hc
    · cases hc
def SummOK (P : Program) (f : FuncId) (g : List LV → List LObj → Option (LV × List LObj)) : Prop :=
  plainFn P f = true ∧ ∀ args st res st', g args st = some (res, st') → ∀ G w us, WR G st w → ArgsR G args us →
    Calls P f us w fun e w' => ∃ u G', e = .returned u ∧ WR G' st' w' ∧ VL G' res u ∧ Ext0 G st w G' st' w'
structure PR (P : Program) (lp : LProg) : Prop where
  fns : ∀ f lf, lp.fns f = some lf → FR P f lf
  summ : ∀ f g, lp.summ f = some g → SummOK P f g
theorem oneRes_sound {G : Gh} {vs : List LV} {us : List Value} (hl : us.length = vs.length) (h : ∀ (i : Nat) v u, vs[i]? = some v → us[i]? = some u → VL G v u) :
    VL G (oneRes vs) (if h : us.toArray.size = 1 then us.toArray[0] else .tuple us.toArray) := by
  have htup : VL G (.tup vs) (.tuple us.toArray) := .tup _ (by simpa using hl) fun i x hx => by
    have hi : i < us.length := by rw [hl]; exact (List.getElem?_eq_some_iff.1 hx).1
    have := h i x us[i] hx (by simp [hi])
    simpa [hi] using this
  match vs, us, hl with
  | [], [], _ => simpa [oneRes] using htup
  | [v], [u], _ => simpa [oneRes] using h 0 v u rfl rfl
  | v :: v' :: vs, u :: u' :: us, _ => simpa [oneRes] using htup
theorem wk_res {G : Gh} (b : Bool) {vs : List LV} {us : List Value} (h1 : us.length = vs.length) (h2 : ∀ (i : Nat) v u, vs[i]? = some v → us[i]? = some u → VL G v u) :
    us.length = (LS.wk b vs).length ∧ ∀ (i : Nat) v u, (LS.wk b vs)[i]? = some v → us[i]? = some u → VL G v u := by
  cases b with
  | false => exact ⟨h1, h2⟩
  | true =>
    refine ⟨by simpa [LS.wk] using h1, fun i v u hv hu => ?_⟩
    simp only [LS.wk, List.getElem?_map, Option.map_eq_some_iff] at hv
    obtain ⟨x, hx, rfl⟩ := hv
    exact (h2 i x u hx hu).weak
theorem runF_sound {lp : LProg} (hp : PR P lp) : ∀ n, CallOK P (runF lp n) := by
  intro n
  induction n with
  | zero => intro f args st res st' h; simp [runF] at h
  | succ n ih =>
    intro f args st res st' hr
    simp only [runF] at hr
    split at hr
    · rename_i g hg
      have := hp.summ f g hg
      exact ⟨this.1, fun G w us h ha => this.2 _ _ _ _ hr G w us h ha⟩
    · split at hr
      · cases hr
      · rename_i lf hlf
        obtain ⟨⟨fn, c, hf, hb, hnt, hcr, hres⟩, hpl⟩ := hp.fns f lf hlf
        refine ⟨hpl, fun G w us h ha => ?_⟩
        refine calls_of_wp hf hb ?_
        replace ha := ha.wk (lp.weak f)
        rw [← wk_len (lp.weak f) args] at hr
        revert ha hr
        generalize LS.wk (lp.weak f) args = args
        intro hr ha
        have ht : TR G (args ++ List.replicate (lf.ntmps - args.length) .und) { tmps := us ++ Array.replicate (fn.ntmps - us.size) undef, defers := [] } := by
          refine ⟨by simp [ha.1, hnt], fun i v hv => ?_⟩
          by_cases hi : i < args.length
          · rw [List.getElem?_append_left hi] at hv
            have := ha.2 i v hv
            rw [Array.getD_eq_getD_getElem?, Array.getElem?_append_left (by rw [ha.1]; exact hi), ← Array.getD_eq_getD_getElem?]
            exact this
          · rw [List.getElem?_append_right (by omega), List.getElem?_replicate] at hv
            split at hv
            · cases hv; exact .und _
            · cases hv
        split at hr
        · cases hr
        · rename_i out t1 st1 hne hex
          split at hr
          · rename_i vs hvs
            split at hr
            · rename_i vs' st2 hgc
              simp only [Option.some.injEq, Prod.mk.injEq] at hr
              obtain ⟨hre, hse⟩ := hr
              subst hse
              subst hre
              refine exec_sound ih (G0 := G) (st0 := st) (w0 := w) h.dom n hcr hex h ht (Ext.refl ..).to0 ?_
              intro e a' w' G' ho g1 g2 g3 g4
              obtain ⟨us', q1, q2, q3⟩ := res_sound (P := P) g1 g2 hres hvs
              obtain ⟨G9, f1, f2, f3, f4, f5⟩ := frz_sound (b := lp.wres f) g1 q2 q3
              obtain ⟨G2, k1, k2, k3, k4⟩ := gc_sound f2 (g3.trans f5) h.dom hgc f3 f4
              have hrun : (results fn a'.tmps).run P w' = .ok (if h : us'.toArray.size = 1 then us'.toArray[0] else .tuple us'.toArray) w' := by
                rw [results_eq]
                have e : fn.results = fn.results.toList.toArray := by simp
                rw [e, List.mapM_toArray, ← bind_pure_comp]
                simp only [Sem.run_bind, q1, Result.andThen_ok, Sem.run_pure]
              have hfin : bodyPost P fn (fun e w' => ∃ u G', e = .returned u ∧ WR G' st2 w' ∧ VL G' (oneRes vs') u ∧ Ext0 G st w G' st2 w') .ret a' w' :=
                ⟨g4, _, hrun, _, G2, rfl, k1, oneRes_sound (by rw [f3, k3]) k4, k2⟩
              cases out with
              | normal => cases e <;> simp [outR] at ho; exact hfin
              | ret => cases e <;> simp [outR] at ho; exact hfin
              | exit i => exact (hne i rfl).elim
            · cases hr
          · cases hr
        · cases hr
end
end Go.LS
set_option linter.unusedVariables false
set_option linter.unusedSimpArgs false
namespace Go.LS
inductive Dep (ops : Array Oper) : Nat → Nat → Prop where
  | one {j : Nat} {o : Oper} {e : Edge} (h1 : ops[j]? = some o) (h2 : e ∈ o.after) (h3 : Region.binds .any e = true) : Dep ops j e.on
  | more {j : Nat} {o : Oper} {e : Edge} {i : Nat} (h1 : ops[j]? = some o) (h2 : e ∈ o.after) (h3 : Region.binds .any e = true) (h : Dep ops e.on i) : Dep ops j i
def depB (ops : Array Oper) : Nat → Nat → Nat → Bool
  | 0, _, _ => false
  | n + 1, j, i => match ops[j]? with
    | some o => o.after.toList.any fun e => Region.binds .any e && (e.on == i || depB ops n e.on i)
    | none => false
theorem depB_sound {ops : Array Oper} : ∀ {n j i : Nat}, depB ops n j i = true → Dep ops j i
  | 0, _, _, h => by simp [depB] at h
  | n + 1, j, i, h => by
    simp only [depB] at h
    split at h
    · rename_i o ho
      obtain ⟨e, he, hb⟩ := List.any_eq_true.1 h
      simp only [Bool.and_eq_true, Bool.or_eq_true, beq_iff_eq] at hb
      rcases hb.2 with rfl | hd
      · exact .one ho (by simpa using he) hb.1
      · exact .more ho (by simpa using he) hb.1 (depB_sound hd)
    · cases h
theorem Dep.done {ops : Array Oper} {L : Array Bool} (hd : ∀ i, L.getD i false = true → ∀ o, ops[i]? = some o → ∀ e ∈ o.after, Region.binds .any e = true → L.getD e.on false = true)
    {j i : Nat} (h : Dep ops j i) (hj : ∀ o, ops[j]? = some o → ∀ e ∈ o.after, Region.binds .any e = true → L.getD e.on false = true) : L.getD i false = true := by
  induction h with
  | one h1 h2 h3 => exact hj _ h1 _ h2 h3
  | more h1 h2 h3 _ ih => exact ih (fun o ho e he hb => hd _ (hj _ h1 _ h2 h3) o ho e he hb)
def conflict (ops : Array Oper) (x y : Oper) : Prop :=
  (∃ d, x.dst = some d ∧ d ∈ y.looksAt ops) ∨ (∃ d, y.dst = some d ∧ d ∈ x.looksAt ops)
structure Sched (P : Program) (ops : Array Oper) (es : List DOp) : Prop where
  get : ∀ (p : Nat) (d : DOp), es[p]? = some d → ∃ o r, ops[d.idx]? = some o ∧ compOper P r ops o = some d.op ∧ (d.cls = .a → d.op.op.makes = true)
  all : ∀ i, i < ops.size → ∃ (p : Nat) (d : DOp), es[p]? = some d ∧ d.idx = i
  inj : ∀ (p q : Nat) (d e : DOp), es[p]? = some d → es[q]? = some e → d.idx = e.idx → p = q
  dsts : ∀ (p q : Nat) (d e : DOp) (x : Nat), es[p]? = some d → es[q]? = some e → d.op.dst = some x → e.op.dst = some x → p = q
  ord : ∀ (p q : Nat) (d e : DOp) (o o' : Oper), p < q → es[p]? = some d → es[q]? = some e → ops[d.idx]? = some o → ops[e.idx]? = some o' → d.cls = .c ∨ conflict ops o o' → Dep ops e.idx d.idx
  must : ∀ (q : Nat) (e : DOp) (i : Nat), es[q]? = some e → i ∈ e.must → Dep ops e.idx i
  topo : ∀ (p : Nat) (d : DOp) (o : Oper) (e : Edge), es[p]? = some d → ops[d.idx]? = some o → e ∈ o.after → Region.binds .any e = true → ∃ (q : Nat) (d' : DOp), q < p ∧ es[q]? = some d' ∧ d'.idx = e.on
theorem pure_store {call : CallF} {t : List LV} {st st' : List LObj} {o : LOper} {v : LV} (hp : pureV o.op v = true) (hr : runOp call t st o = some (v, st')) : st' = st := by
  unfold runOp at hr
  split at hr
  · revert hr hp
    generalize o.op = op
    intro hp hr
    cases op <;> simp only [pureV, Bool.false_eq_true] at hp
    case mkrow r size len z parts =>
      simp only [Bool.and_eq_true, Bool.not_eq_true'] at hp
      simp only [opStep, hp.1] at hr
      split at hr
      · cases hr
      · split at hr
        · cases hr
        · simp only [Bool.false_eq_true, if_false] at hr
          split at hr <;> cases hr
          · rfl
          · simp at hp
    all_goals
      simp only [opStep] at hr
      first
        | (cases hr; rfl)
        | (repeat' split at hr
           all_goals first | (cases hr; rfl) | cases hr)
  · cases hr; rfl
  · cases hr
theorem stat_any {call : CallF} {t : List LV} {st st' st2 : List LObj} {o : LOper} {v : LV} (hp : pureV o.op v = true) (hs : statB t o.op = true) (hr : runOp call t st o = some (v, st')) : runOp call t st2 o = some (v, st2) := by
  unfold runOp at hr ⊢
  split at hr
  · revert hr hp hs
    generalize o.op = op
    intro hp hs hr
    cases op <;> simp only [pureV, Bool.false_eq_true] at hp <;> simp only [statB, Bool.false_eq_true] at hs
    case mkrow r size len z parts =>
      simp only [Bool.and_eq_true, Bool.not_eq_true'] at hp
      simp only [opStep, hp.1] at hr ⊢
      split at hr
      · cases hr
      · rename_i ps e1
        split at hr
        · cases hr
        · rename_i es e2
          simp only [Bool.false_eq_true, if_false] at hr
          split at hr <;> cases hr
          · rename_i qs e3
            simp [e1, e2, e3]
          · simp at hp
    case indexAddr size x i =>
      simp only [opStep] at hr ⊢
      split at hr
      · cases hr
      · rename_i n hn
        split at hr
        · cases hr
        · rename_i h0
          rw [if_neg h0]
          revert hs hr
          generalize x.ev t = xv
          intro hs hr
          split at hr
          · simp [LV.isRs] at hs
          · split at hr
            · rename_i h1
              split at hr
              · rename_i h2
                split at hr <;> cases hr
                rename_i h3
                rw [if_pos h3]
              · cases hr
            · cases hr
    case len x =>
      simp only [opStep] at hr ⊢
      revert hs hr
      generalize x.ev t = xv
      intro hs hr
      split at hr
      · simp [LV.isRs] at hs
      · split at hr
        · rename_i h1
          cases hr
          simp only [h1]
        · cases hr
    case slice size x lo hi mx =>
      simp only [opStep] at hr ⊢
      have : rslice size st2 (x.ev t) (lo.map (LX.ev t)) (hi.map (LX.ev t)) (mx.map (LX.ev t)) = rslice size st (x.ev t) (lo.map (LX.ev t)) (hi.map (LX.ev t)) (mx.map (LX.ev t)) := by
        revert hs
        generalize x.ev t = xv
        intro hs
        cases xv <;> first | rfl | (rename_i es; cases es <;> rfl; done) | simp [LV.isRs] at hs
      rw [this]
      split at hr <;> cases hr
      rename_i h1
      simp only [h1]
    case mx x y =>
      simp only [opStep] at hr ⊢
      split at hr
      · simp only [Option.some.injEq, Prod.mk.injEq] at hr ⊢
        exact ⟨hr.1, trivial⟩
      · cases hr
    case mn x y =>
      simp only [opStep] at hr ⊢
      split at hr
      · simp only [Option.some.injEq, Prod.mk.injEq] at hr ⊢
        exact ⟨hr.1, trivial⟩
      · cases hr
    all_goals
      simp only [opStep] at hr ⊢
      first
        | (cases hr; rfl)
        | (repeat' split at hr
           all_goals first | (simp only [Option.some.injEq, Prod.mk.injEq] at hr; simp only [hr.1]; done) | (cases hr; simp_all; done) | cases hr)
  · cases hr; rfl
  · cases hr
theorem heldOk_inv {call : CallF} {st : List LObj} {held : List (DOp × List LV × LV)} (h : heldOk call st held = true) (hp : ∀ x ∈ held, pureV x.1.op.op x.2.2 = true) :
    ∀ x ∈ held, runOp call x.2.1 st x.1.op = some (x.2.2, st) := by
  intro x hx
  have := List.all_eq_true.1 h x hx
  split at this
  · rename_i v s hr
    have e := LV.eq_of_eqb _ _ this
    subst e
    rw [hr, pure_store (hp x hx) hr]
  · cases this
structure Trace (call : CallF) (es : List DOp) (T : Nat → List LV) (S : Nat → List LObj) (V : Nat → LV) : Prop where
  run : ∀ (p : Nat) (d : DOp), es[p]? = some d → runOp call (T p) (S p) d.op = some (V p, S (p + 1)) ∧ T (p + 1) = putT (T p) d.op.dst (V p)
  pure : ∀ (p : Nat) (d : DOp), es[p]? = some d → d.cls = .h → pureV d.op.op (V p) = true
  new : ∀ (p : Nat) (d : DOp), es[p]? = some d → d.cls = .a → newOk (S p) (S (p + 1)) = true
  len : ∀ (p : Nat) (d : DOp), es[p]? = some d → d.cls = .c → (S p).length ≤ (S (p + 1)).length
  held : ∀ (p : Nat) (d : DOp), es[p]? = some d → d.cls = .h → ∀ m, p < m → m ≤ es.length → (∀ (q : Nat) e, p < q → q < m → es[q]? = some e → e.cls = .c → d.idx ∉ e.must) → runOp call (T p) (S m) d.op = some (V p, S m)
theorem runDrawn_trace {call : CallF} : ∀ (es : List DOp) (held : List (DOp × List LV × LV)) (t t' : List LV) (st st' : List LObj), runDrawn call es held t st = some (t', st') →
    (∀ x ∈ held, pureV x.1.op.op x.2.2 = true ∧ runOp call x.2.1 st x.1.op = some (x.2.2, st)) →
    ∃ T S V, Trace call es T S V ∧ T 0 = t ∧ S 0 = st ∧ T es.length = t' ∧ S es.length = st' ∧
      ∀ x ∈ held, ∀ m, m ≤ es.length → (∀ (q : Nat) e, q < m → es[q]? = some e → e.cls = .c → x.1.idx ∉ e.must) → runOp call x.2.1 (S m) x.1.op = some (x.2.2, S m)
  | [], held, t, t', st, st', hr, hh => by
    simp only [runDrawn] at hr; cases hr
    exact ⟨fun _ => t, fun _ => st, fun _ => .und, ⟨by simp, by simp, by simp, by simp, by simp⟩, rfl, rfl, rfl, rfl, fun x hx m _ _ => (hh x hx).2⟩
  | d :: r, held, t, t', st, st', hr, hh => by
    simp only [runDrawn] at hr
    split at hr
    · cases hr
    · rename_i v st1 hstep
      have fin : ∀ (held' : List (DOp × List LV × LV)), runDrawn call r held' (putT t d.op.dst v) st1 = some (t', st') → (∀ x ∈ held', pureV x.1.op.op x.2.2 = true ∧ runOp call x.2.1 st1 x.1.op = some (x.2.2, st1)) →
          (d.cls = .h → pureV d.op.op v = true ∧ (statB t d.op.op = true ∨ (d, t, v) ∈ held')) → (d.cls = .a → newOk st st1 = true) → (d.cls = .c → st.length ≤ st1.length) →
          (∀ x ∈ held, x ∈ held' ∨ (d.cls = .c ∧ x.1.idx ∈ d.must)) →
          ∃ T S V, Trace call (d :: r) T S V ∧ T 0 = t ∧ S 0 = st ∧ T (d :: r).length = t' ∧ S (d :: r).length = st' ∧
            ∀ x ∈ held, ∀ m, m ≤ (d :: r).length → (∀ (q : Nat) e, q < m → (d :: r)[q]? = some e → e.cls = .c → x.1.idx ∉ e.must) → runOp call x.2.1 (S m) x.1.op = some (x.2.2, S m) := by
        intro held' hr' h1 h2 h3 h3' h4
        obtain ⟨T, S, V, tr, e1, e2, e3, e4, e5⟩ := runDrawn_trace r held' _ _ _ _ hr' h1
        refine ⟨fun | 0 => t | p + 1 => T p, fun | 0 => st | p + 1 => S p, fun | 0 => v | p + 1 => V p, ⟨?_, ?_, ?_, ?_, ?_⟩, rfl, rfl, e3, e4, ?_⟩
        · intro p e he
          cases p with
          | zero => simp at he; subst he; exact ⟨by show runOp call t st d.op = some (v, S 0); rw [e2]; exact hstep, e1⟩
          | succ p => exact tr.run p e (by simpa using he)
        · intro p e he hc
          cases p with
          | zero => simp at he; subst he; exact (h2 hc).1
          | succ p => exact tr.pure p e (by simpa using he) hc
        · intro p e he hc
          cases p with
          | zero => simp at he; subst he; show newOk st (S 0) = true; rw [e2]; exact h3 hc
          | succ p => exact tr.new p e (by simpa using he) hc
        · intro p e he hc
          cases p with
          | zero => simp at he; subst he; show st.length ≤ (S 0).length; rw [e2]; exact h3' hc
          | succ p => exact tr.len p e (by simpa using he) hc
        · intro p e he hc m hpm hm hq
          cases m with
          | zero => omega
          | succ m =>
            cases p with
            | zero =>
              simp at he; subst he
              rcases (h2 hc).2 with hst | hmem
              · exact stat_any (h2 hc).1 hst hstep
              · exact e5 _ hmem m (by simpa using hm) (fun q e hqm he hec => hq (q + 1) e (by omega) (by omega) (by simpa using he) hec)
            | succ p =>
              exact tr.held p e (by simpa using he) hc m (by omega) (by simpa using hm) (fun q e' h1 h2 he' hec => hq (q + 1) e' (by omega) (by omega) (by simpa using he') hec)
        · intro x hx m hm hq
          cases m with
          | zero => exact (hh x hx).2
          | succ m =>
            rcases h4 x hx with h4 | ⟨h4, h5⟩
            · exact e5 x h4 m (by simpa using hm) (fun q e hqm he hec => hq (q + 1) e (by omega) (by simpa using he) hec)
            · exact absurd h5 (hq 0 d (by omega) rfl h4)
      split at hr
      · rename_i hc
        split at hr
        · rename_i hp
          have := pure_store hp hstep
          subst this
          refine fin _ hr (fun x hx => ?_) (fun _ => ⟨hp, ?_⟩) (by simp [hc]) (by simp [hc]) (fun x hx => .inl (by split <;> simp [hx]))
          · split at hx
            · exact hh x hx
            · rcases List.mem_cons.1 hx with rfl | hx
              · exact ⟨hp, hstep⟩
              · exact hh x hx
          · split
            · rename_i hst; exact .inl hst
            · exact .inr (by simp)
        · cases hr
      · rename_i hc
        split at hr
        · rename_i hk
          simp only [Bool.and_eq_true] at hk
          exact fin _ hr (fun x hx => ⟨(hh x hx).1, heldOk_inv hk.2 (fun y hy => (hh y hy).1) x hx⟩) (by simp [hc]) (fun _ => hk.1) (by simp [hc]) (fun x hx => .inl hx)
        · cases hr
      · rename_i hc
        split at hr
        · rename_i hk
          simp only [Bool.and_eq_true, decide_eq_true_eq] at hk
          refine fin _ hr (fun x hx => ⟨(hh x (List.mem_filter.1 hx).1).1, heldOk_inv hk.2 (fun y hy => (hh y (List.mem_filter.1 hy).1).1) x hx⟩) (by simp [hc]) (by simp [hc]) (fun _ => hk.1) (fun x hx => ?_)
          by_cases hm : x.1.idx ∈ d.must
          · exact .inr ⟨hc, hm⟩
          · exact .inl (List.mem_filter.2 ⟨hx, by simpa using hm⟩)
        · cases hr
theorem Trace.tmps {call : CallF} {es : List DOp} {T : Nat → List LV} {S : Nat → List LObj} {V : Nat → LV} (tr : Trace call es T S V)
    (hd : ∀ (p q : Nat) (d e : DOp) (x : Nat), es[p]? = some d → es[q]? = some e → d.op.dst = some x → e.op.dst = some x → p = q) :
    ∀ p, p ≤ es.length → (T p).length = (T 0).length ∧ ∀ i, i < (T 0).length →
      (∀ (q : Nat) d, q < p → es[q]? = some d → d.op.dst = some i → (T p)[i]? = some (V q)) ∧ ((∀ (q : Nat) d, q < p → es[q]? = some d → d.op.dst ≠ some i) → (T p)[i]? = (T 0)[i]?) := by
  intro p
  induction p with
  | zero => intro _; exact ⟨rfl, fun i _ => ⟨fun q _ h => by omega, fun _ => rfl⟩⟩
  | succ p ih =>
    intro hp
    obtain ⟨h1, h2⟩ := ih (by omega)
    have hlt : p < es.length := by omega
    have hget : es[p]? = some es[p] := by simp [hlt]
    obtain ⟨_, ht⟩ := tr.run p _ hget
    rw [ht]
    refine ⟨by cases es[p].op.dst <;> simp [putT, h1], fun i hi => ⟨fun q d hq hd' hdst => ?_, fun hn => ?_⟩⟩
    · by_cases e : q = p
      · subst e
        rw [hget] at hd'; cases hd'
        simp only [hdst, putT]
        rw [List.getElem?_set_self (by omega)]
      · have h3 := (h2 i hi).1 q d (by omega) hd' hdst
        cases hx : es[p].op.dst with
        | none => exact h3
        | some x =>
          simp only [putT]
          by_cases hxi : x = i
          · subst hxi
            exact absurd (hd q p d es[p] x hd' hget hdst hx) e
          · rw [List.getElem?_set_ne hxi]; exact h3
    · have h3 := (h2 i hi).2 (fun q d hq => hn q d (by omega))
      have h4 := hn p _ (by omega) hget
      cases hx : es[p].op.dst with
      | none => exact h3
      | some x =>
        simp only [putT]
        by_cases hxi : x = i
        · subst hxi; exact absurd hx h4
        · rw [List.getElem?_set_ne hxi]; exact h3
theorem nodup_le : ∀ (n : Nat) (l : List Nat), l.Nodup → (∀ i ∈ l, i < n) → l.length ≤ n
  | 0, l, _, h => by
    cases l with
    | nil => simp
    | cons x l => exact absurd (h x (by simp)) (by omega)
  | n + 1, l, hn, h => by
    have := nodup_le n (l.erase n) (hn.erase n) (fun i hi => by
      have := (hn.mem_erase_iff).1 hi
      have := h i this.2
      omega)
    by_cases hm : n ∈ l
    · rw [List.length_erase_of_mem hm] at this; omega
    · rw [List.erase_of_not_mem hm] at this; omega
section
variable {P : Program} {call : CallF} {ops : Array Oper} {es : List DOp} {T : Nat → List LV} {S : Nat → List LObj} {V : Nat → LV} {G0 : Gh} {w0 : World}
abbrev LL (L : Array Bool) (i : Nat) : Prop := L.getD i false = true
structure Inv (ops : Array Oper) (es : List DOp) (T : Nat → List LV) (S : Nat → List LObj) (V : Nat → LV) (G0 : Gh) (w0 : World) (L : Array Bool) (a : Act) (w : World) (m : Nat) (G : Gh) : Prop where
  sz : L.size = ops.size
  dn : ∀ i, LL L i → ∀ o, ops[i]? = some o → ∀ e ∈ o.after, Region.binds .any e = true → LL L e.on
  mle : m ≤ es.length
  below : ∀ (p : Nat) d, p < m → es[p]? = some d → d.cls = .c → LL L d.idx
  at_ : ∀ d, es[m]? = some d → d.cls = .c ∧ ¬ LL L d.idx
  wr : WR G (S m) w
  ext : Ext0 G0 (S 0) w0 G (S m) w
  pend : ∀ (p : Nat) d x, p < m → es[p]? = some d → d.cls = .a → ¬ LL L d.idx → S (p + 1) = S p ++ [x] → (S m)[(S p).length]? = some x ∧ G.loc (S p).length = none ∧ ∀ f, G.hist (S p).length f = none
  tsz : a.tmps.size = (T 0).length
  tm1 : ∀ i, i < (T 0).length → ∀ (p : Nat) (d : DOp), es[p]? = some d → LL L d.idx → d.op.dst = some i → VL G (V p) (a.tmps.getD i undef)
  tm2 : ∀ i, i < (T 0).length → (∀ (p : Nat) (d : DOp), es[p]? = some d → LL L d.idx → d.op.dst ≠ some i) → VL G ((T 0).getD i .und) (a.tmps.getD i undef)
theorem dst_of_comp {r : Bool} {o : Oper} {lo : LOper} (h : compOper P r ops o = some lo) : lo.dst = o.dst ∧ compGuard ops o = some lo.guard ∧ compOp P r o.op = some lo.op := by
  unfold compOper at h
  split at h
  · cases h; exact ⟨rfl, ‹_›, ‹_›⟩
  · cases h
theorem Inv.reads (hs : Sched P ops es) (tr : Trace call es T S V) {L : Array Bool} {a : Act} {w : World} {m : Nat} {G : Gh} (h : Inv ops es T S V G0 w0 L a w m G)
    {p : Nat} {d : DOp} {o : Oper} (hp : es[p]? = some d) (ho : ops[d.idx]? = some o) (hn : ¬ LL L d.idx) (hr : ∀ e ∈ o.after, Region.binds .any e = true → LL L e.on) {i : Nat} (hi : i ∈ o.looksAt ops) :
    VL G ((T p).getD i .und) (a.tmps.getD i undef) := by
  have hlt : p < es.length := (List.getElem?_eq_some_iff.1 hp).1
  obtain ⟨t1, t2⟩ := tr.tmps hs.dsts p (by omega)
  by_cases hil : i < (T 0).length
  · by_cases hw : ∃ (q : Nat) (e : DOp), q < p ∧ es[q]? = some e ∧ e.op.dst = some i
    · obtain ⟨q, e, hqp, hq, hdst⟩ := hw
      obtain ⟨o', r', ho', hc', _⟩ := hs.get q e hq
      have hdep := hs.ord q p e d o' o hqp hq hp ho' ho (.inr (.inl ⟨i, by rw [← (dst_of_comp hc').1]; exact hdst, hi⟩))
      have hl := hdep.done h.dn (fun o2 ho2 => by rw [ho] at ho2; cases ho2; exact hr)
      have := h.tm1 i hil q e hq hl hdst
      have e2 := ((t2 i hil).1 q e hqp hq hdst)
      rw [List.getD_eq_getElem?_getD, e2]
      exact this
    · have e2 := (t2 i hil).2 (fun q e hq he hx => hw ⟨q, e, hq, he, hx⟩)
      rw [List.getD_eq_getElem?_getD, e2, ← List.getD_eq_getElem?_getD]
      refine h.tm2 i hil (fun q e hq hl hdst => ?_)
      rcases Nat.lt_trichotomy q p with hqp | rfl | hqp
      · exact hw ⟨q, e, hqp, hq, hdst⟩
      · rw [hp] at hq; cases hq; exact hn hl
      · obtain ⟨o', r', ho', hc', _⟩ := hs.get q e hq
        have hdep := hs.ord p q d e o o' hqp hp hq ho ho' (.inr (.inr ⟨i, by rw [← (dst_of_comp hc').1]; exact hdst, hi⟩))
        exact hn (hdep.done h.dn (fun o2 ho2 => h.dn _ hl o2 ho2))
  · rw [List.getD_eq_getElem?_getD, List.getElem?_eq_none (by omega)]
    exact .und _
theorem advance (tr : Trace call es T S V) (hmk : ∀ (p : Nat) (d : DOp), es[p]? = some d → d.cls = .a → S (p + 1) = S p ∨ ∃ x, S (p + 1) = S p ++ [x]) {L : Array Bool} {w : World} {G : Gh} :
    ∀ (k m : Nat), es.length - m = k → m ≤ es.length → WR G (S m) w → Ext0 G0 (S 0) w0 G (S m) w →
      (∀ (p : Nat) d x, p < m → es[p]? = some d → d.cls = .a → ¬ LL L d.idx → S (p + 1) = S p ++ [x] → (S m)[(S p).length]? = some x ∧ G.loc (S p).length = none ∧ ∀ f, G.hist (S p).length f = none) →
      ∃ m', m ≤ m' ∧ m' ≤ es.length ∧ (∀ (q : Nat) e, m ≤ q → q < m' → es[q]? = some e → e.cls ≠ .c) ∧ (∀ e, es[m']? = some e → e.cls = .c) ∧ WR G (S m') w ∧ Ext0 G0 (S 0) w0 G (S m') w ∧
        (∀ (p : Nat) d x, p < m' → es[p]? = some d → d.cls = .a → ¬ LL L d.idx → S (p + 1) = S p ++ [x] → (S m')[(S p).length]? = some x ∧ G.loc (S p).length = none ∧ ∀ f, G.hist (S p).length f = none) := by
  intro k
  induction k with
  | zero =>
    intro m hk hm h hx hp
    exact ⟨m, Nat.le_refl _, hm, fun q e h1 h2 => by omega, fun e he => by have := (List.getElem?_eq_some_iff.1 he).1; omega, h, hx, hp⟩
  | succ k ih =>
    intro m hk hm h hx hp
    have hlt : m < es.length := by omega
    have hget : es[m]? = some es[m] := by simp [hlt]
    by_cases hc : es[m].cls = .c
    · exact ⟨m, Nat.le_refl _, hm, fun q e h1 h2 => by omega, fun e he => by rw [hget] at he; cases he; exact hc, h, hx, hp⟩
    · have step : (S (m + 1) = S m ∨ ∃ x, es[m].cls = .a ∧ S (m + 1) = S m ++ [x]) := by
        cases hcl : es[m].cls with
        | h => exact .inl (pure_store (tr.pure m _ hget hcl) (tr.run m _ hget).1)
        | a =>
          rcases hmk m _ hget hcl with e | ⟨x, e⟩
          · exact .inl e
          · exact .inr ⟨x, rfl, e⟩
        | c => exact absurd hcl hc
      have close : WR G (S (m + 1)) w → Ext0 G0 (S 0) w0 G (S (m + 1)) w → (∀ (p : Nat) d x, p < m + 1 → es[p]? = some d → d.cls = .a → ¬ LL L d.idx → S (p + 1) = S p ++ [x] → (S (m + 1))[(S p).length]? = some x ∧ G.loc (S p).length = none ∧ ∀ f, G.hist (S p).length f = none) →
          ∃ m', m ≤ m' ∧ m' ≤ es.length ∧ (∀ (q : Nat) e, m ≤ q → q < m' → es[q]? = some e → e.cls ≠ .c) ∧ (∀ e, es[m']? = some e → e.cls = .c) ∧ WR G (S m') w ∧ Ext0 G0 (S 0) w0 G (S m') w ∧
            (∀ (p : Nat) d x, p < m' → es[p]? = some d → d.cls = .a → ¬ LL L d.idx → S (p + 1) = S p ++ [x] → (S m')[(S p).length]? = some x ∧ G.loc (S p).length = none ∧ ∀ f, G.hist (S p).length f = none) := by
        intro h1 h2 h3
        obtain ⟨m', a1, a2, a3, a4, a5, a6, a7⟩ := ih (m + 1) (by omega) hlt h1 h2 h3
        refine ⟨m', by omega, a2, fun q e b1 b2 he => ?_, a4, a5, a6, a7⟩
        by_cases e' : q = m
        · subst e'; rw [hget] at he; cases he; exact hc
        · exact a3 q e (by omega) b2 he
      rcases step with e | ⟨x, hca, e⟩
      · refine close (e ▸ h) (e ▸ hx) (fun p d x hpm hd hcl hnl hS => ?_)
        rw [e]
        by_cases hpe : p = m
        · subst hpe
          rw [e] at hS
          have := congrArg List.length hS
          simp at this
        · exact hp p d x (by omega) hd hcl hnl hS
      · refine close (e ▸ h.snoc x) (e ▸ hx.trans (Ext0.snoc h x)) (fun p d y hpm hd hcl hnl hS => ?_)
        rw [e]
        by_cases hpe : p = m
        · subst hpe
          rw [e] at hS
          have := List.append_cancel_left hS
          cases this
          exact ⟨get_snoc, h.dom _ (Nat.le_refl _)⟩
        · obtain ⟨b1, b2⟩ := hp p d y (by omega) hd hcl hnl hS
          exact ⟨by rw [get_snoc_lt (List.getElem?_eq_some_iff.1 b1).1]; exact b1, b2⟩
end
end Go.LS
set_option linter.unusedVariables false
set_option linter.unusedSimpArgs false
namespace Go.LS
section
variable {P : Program} {call : CallF} {ops : Array Oper} {es : List DOp} {T : Nat → List LV} {S : Nat → List LObj} {V : Nat → LV} {G0 : Gh} {w0 : World}
theorem ll_set {L : Array Bool} {i j : Nat} (hi : i < L.size) : LL (L.setIfInBounds i true) j ↔ j = i ∨ LL L j := by
  unfold LL
  by_cases e : i = j
  · subst e; simp [hi]
  · rw [getD_set_ne false e]
    exact ⟨.inr, fun h => h.resolve_left (Ne.symm e)⟩
theorem Inv.next (hs : Sched P ops es) {L : Array Bool} {a : Act} {w : World} {m : Nat} {G : Gh} (h : Inv ops es T S V G0 w0 L a w m G)
    {p : Nat} {d : DOp} {o : Oper} (hp : es[p]? = some d) (ho : ops[d.idx]? = some o) (hdst : d.op.dst = o.dst) (hn : ¬ LL L d.idx) (hr : ∀ e ∈ o.after, Region.binds .any e = true → LL L e.on)
    {u : Value} {w' : World} {G' : Gh} {m' : Nat} (hle : G.le G') (hv : VL G' (V p) u) (mle : m' ≤ es.length)
    (hb : ∀ (q : Nat) e, q < m' → es[q]? = some e → e.cls = .c → LL L e.idx ∨ e.idx = d.idx) (ha : ∀ e, es[m']? = some e → e.cls = .c ∧ ¬ LL L e.idx ∧ e.idx ≠ d.idx)
    (hwr : WR G' (S m') w') (hx : Ext0 G0 (S 0) w0 G' (S m') w')
    (hpd : ∀ (q : Nat) e x, q < m' → es[q]? = some e → e.cls = .a → ¬ LL L e.idx → e.idx ≠ d.idx → S (q + 1) = S q ++ [x] → (S m')[(S q).length]? = some x ∧ G'.loc (S q).length = none ∧ ∀ f, G'.hist (S q).length f = none) :
    Inv ops es T S V G0 w0 (L.setIfInBounds d.idx true) (a.put o.dst u) w' m' G' := by
  have hi : d.idx < L.size := by rw [h.sz]; exact (Array.getElem?_eq_some_iff.1 ho).1
  refine ⟨by simp [h.sz], ?_, mle, ?_, ?_, hwr, hx, ?_, ?_, ?_, ?_⟩
  · intro i hl o' ho' e he hbd
    rw [ll_set hi] at hl ⊢
    rcases hl with rfl | hl
    · rw [ho] at ho'; cases ho'; exact .inr (hr e he hbd)
    · exact .inr (h.dn i hl o' ho' e he hbd)
  · intro q e hq he hc
    rw [ll_set hi]
    exact (hb q e hq he hc).symm
  · intro e he
    obtain ⟨a1, a2, a3⟩ := ha e he
    refine ⟨a1, fun hl => ?_⟩
    rw [ll_set hi] at hl
    rcases hl with hl | hl
    · exact a3 hl
    · exact a2 hl
  · intro q e x hq he hc hl hS
    rw [ll_set hi] at hl
    exact hpd q e x hq he hc (fun k => hl (.inr k)) (fun k => hl (.inl k)) hS
  · cases o.dst <;> simp [Act.put, h.tsz]
  · intro i hil q e he hl hde
    rw [ll_set hi] at hl
    by_cases e0 : e.idx = d.idx
    · obtain rfl := hs.inj q p e d he hp e0
      rw [hp] at he; cases he
      rw [hdst] at hde
      rw [hde]
      simp only [Act.put]
      rw [Array.getD_eq_getD_getElem?, Array.getElem?_setIfInBounds_self_of_lt (by rw [h.tsz]; exact hil)]
      exact hv
    · have h1 := (h.tm1 i hil q e he (hl.resolve_left e0) hde).mono hle
      cases hx : o.dst with
      | none => exact h1
      | some x =>
        simp only [Act.put]
        have hxi : x ≠ i := by
          rintro rfl
          obtain rfl := hs.dsts q p e d x he hp hde (by rw [hdst]; exact hx)
          rw [hp] at he; cases he; exact e0 rfl
        rw [Array.getD_eq_getD_getElem?, Array.getElem?_setIfInBounds_ne hxi, ← Array.getD_eq_getD_getElem?]
        exact h1
  · intro i hil hno
    have h1 := (h.tm2 i hil (fun q e he hl => hno q e he (by rw [ll_set hi]; exact .inr hl))).mono hle
    have h2 := hno p d hp (by rw [ll_set hi]; exact .inl rfl)
    cases hx : o.dst with
    | none => exact h1
    | some x =>
      simp only [Act.put]
      have hxi : x ≠ i := by
        rintro rfl
        exact h2 (by rw [hdst]; exact hx)
      rw [Array.getD_eq_getD_getElem?, Array.getElem?_setIfInBounds_ne hxi, ← Array.getD_eq_getD_getElem?]
      exact h1
theorem newOk_inv {st : List LObj} {x : LObj} (h : newOk st (st ++ [x]) = true) : (∃ es, x = .row es) ∨ (∃ kv, x = .map kv) := by
  unfold newOk at h
  rw [get_snoc] at h
  cases x with
  | row es => exact .inl ⟨_, rfl⟩
  | map kv => exact .inr ⟨_, rfl⟩
  | _ => cases h
theorem drawn_mk (hs : Sched P ops es) (tr : Trace call es T S V) : ∀ (p : Nat) (d : DOp), es[p]? = some d → d.cls = .a → S (p + 1) = S p ∨ ∃ x, S (p + 1) = S p ++ [x] := by
    intro p d hp hc
    obtain ⟨o, r, ho, hcm, hmk⟩ := hs.get p d hp
    have hrun := (tr.run p d hp).1
    unfold runOp at hrun
    split at hrun
    · refine .inr ?_
      have := hmk hc
      revert hrun this
      generalize d.op.op = op
      intro hrun this
      cases op <;> simp only [LOp.makes, Bool.false_eq_true] at this <;> simp only [opStep] at hrun
      case mkrow r' size len z parts =>
        subst this
        split at hrun
        · cases hrun
        · split at hrun
          · cases hrun
          · simp only [if_true, Option.some.injEq, Prod.mk.injEq] at hrun; exact ⟨_, hrun.2.symm⟩
      all_goals
        repeat' split at hrun
        all_goals first | (simp only [Option.some.injEq, Prod.mk.injEq] at hrun; exact ⟨_, hrun.2.symm⟩) | cases hrun
    · simp only [Option.some.injEq, Prod.mk.injEq] at hrun; exact .inl hrun.2.symm
    · cases hrun
theorem drawn_any (hok : CallOK P call) (hs : Sched P ops es) (tr : Trace call es T S V) {Q : Exit → Act → World → Prop} {df : List Deferred}
    (hQ : ∀ a' w' G', WR G' (S es.length) w' → TR G' (T es.length) a' → Ext0 G0 (S 0) w0 G' (S es.length) w' → a'.defers = df → Q .normal a' w') :
    ∀ (fuel : Nat) (L : Array Bool) (a : Act) (w : World) (m : Nat) (G : Gh) (done : List Nat), Inv ops es T S V G0 w0 L a w m G → done.Nodup → (∀ i ∈ done, i < ops.size ∧ LL L i) → done.length + fuel = ops.size →
      a.defers = df → wpAny P .any ops Q fuel L a w := by
  have fin : ∀ (L : Array Bool) (a : Act) (w : World) (m : Nat) (G : Gh), Inv ops es T S V G0 w0 L a w m G → (∀ i, i < ops.size → LL L i) → a.defers = df → Q .normal a w := by
    intro L a w m G h hall hdf
    have hm : m = es.length := by
      rcases Nat.lt_or_ge m es.length with hlt | hge
      · have hget : es[m]? = some es[m] := by simp [hlt]
        obtain ⟨o, r, ho, _⟩ := hs.get m _ hget
        exact absurd (hall _ (Array.getElem?_eq_some_iff.1 ho).1) (h.at_ _ hget).2
      · have := h.mle; omega
    subst hm
    obtain ⟨t1, t2⟩ := tr.tmps hs.dsts es.length (Nat.le_refl _)
    refine hQ a w G h.wr ⟨by rw [h.tsz, t1], fun i v hv => ?_⟩ h.ext hdf
    have hil : i < (T 0).length := by rw [← t1]; exact (List.getElem?_eq_some_iff.1 hv).1
    by_cases hw : ∃ (q : Nat) (e : DOp), es[q]? = some e ∧ e.op.dst = some i
    · obtain ⟨q, e, he, hd⟩ := hw
      have hq := (List.getElem?_eq_some_iff.1 he).1
      rw [(t2 i hil).1 q e hq he hd] at hv
      cases hv
      obtain ⟨o, r, ho, _⟩ := hs.get q e he
      exact h.tm1 i hil q e he (hall _ (Array.getElem?_eq_some_iff.1 ho).1) hd
    · rw [(t2 i hil).2 (fun q e _ he hd => hw ⟨q, e, he, hd⟩)] at hv
      have := h.tm2 i hil (fun q e he _ hd => hw ⟨q, e, he, hd⟩)
      rw [List.getD_eq_getElem?_getD, hv] at this
      exact this
  have hmk := drawn_mk hs tr
  intro fuel
  induction fuel with
  | zero =>
    intro L a w m G done h hnd hdone hlen hdf
    have hall : ∀ i, i < ops.size → LL L i := by
      intro i hi
      by_cases hm : i ∈ done
      · exact (hdone i hm).2
      · have := nodup_le ops.size (i :: done) (List.nodup_cons.2 ⟨hm, hnd⟩) (fun j hj => by
          rcases List.mem_cons.1 hj with rfl | hj
          · exact hi
          · exact (hdone j hj).1)
        simp at this
        omega
    refine ⟨List.eq_nil_iff_forall_not_mem.2 fun j hj => ?_, fin L a w m G h hall hdf⟩
    obtain ⟨h0, o, ho, _⟩ := mem_ready.1 hj
    have hlt := (Array.getElem?_eq_some_iff.1 ho).1
    have h1 := hall j hlt
    rw [LL, Array.getD_eq_getD_getElem?, Array.getElem?_eq_getElem (by rw [h.sz]; exact hlt)] at h1
    rw [Array.getD_eq_getD_getElem?, Array.getElem?_eq_getElem (by rw [h.sz]; exact hlt)] at h0
    simp at h0 h1
    rw [h0] at h1; cases h1
  | succ fuel ih =>
    intro L a w m G done h hnd hdone hlen hdf
    have hnll : ∀ j, j < ops.size → (L.getD j true = false ↔ ¬ LL L j) := by
      intro j hj
      unfold LL
      rw [Array.getD_eq_getD_getElem?, Array.getD_eq_getD_getElem?, Array.getElem?_eq_getElem (by rw [h.sz]; exact hj)]
      simp
    refine ⟨fun hnil => fin L a w m G h (fun i hi => ?_) hdf, fun i hi => ?_⟩
    · obtain ⟨p, d, hp, rfl⟩ := hs.all i hi
      have key : ∀ (p : Nat) (d : DOp), es[p]? = some d → LL L d.idx := by
        intro p
        induction p using Nat.strongRecOn with
        | _ p ihp =>
          intro d hp
          obtain ⟨o, r, ho, _⟩ := hs.get p d hp
          have hlt := (Array.getElem?_eq_some_iff.1 ho).1
          refine Classical.byContradiction fun hn => ?_
          have : d.idx ∈ Region.ready .any ops L := mem_ready.2 ⟨(hnll _ hlt).2 hn, o, ho, fun e he hb => by
            obtain ⟨q, d', hq, hd', e1⟩ := hs.topo p d o e hp ho he hb
            rw [← e1]; exact ihp q hq d' hd'⟩
          rw [hnil] at this
          cases this
      exact key p d hp
    · obtain ⟨h0, o, ho, hr⟩ := mem_ready.1 hi
      have hlt := (Array.getElem?_eq_some_iff.1 ho).1
      obtain ⟨p, d, hp, rfl⟩ := hs.all i hlt
      have hn : ¬ LL L d.idx := (hnll _ hlt).1 h0
      obtain ⟨o', r, ho', hcm, hmk'⟩ := hs.get p d hp
      rw [ho] at ho'; cases ho'
      obtain ⟨hdst, hguard, hcop⟩ := dst_of_comp hcm
      have hplt : p < es.length := (List.getElem?_eq_some_iff.1 hp).1
      -- no later than the next one that all wait for
      have hpm : p ≤ m := by
        rcases Nat.lt_or_ge m p with hgt | hle
        · exfalso
          have hget : es[m]? = some es[m] := by simp [show m < es.length by omega]
          obtain ⟨a1, a2⟩ := h.at_ _ hget
          obtain ⟨om, rm, hom, _⟩ := hs.get m _ hget
          exact a2 ((hs.ord m p _ d om o hgt hget hp hom ho (.inl a1)).done h.dn (fun o2 ho2 => by rw [ho] at ho2; cases ho2; exact hr))
        · exact hle
      have hread : ∀ j, j ∈ o.looksAt ops → VL G ((T p).getD j .und) (a.tmps.getD j undef) := fun j hj => h.reads hs tr hp ho hn hr hj
      have hxs : XsR G (T p) a o.op := by
        intro x hx y hy
        cases x with
        | tmp j =>
          simp only [compX] at hy; cases hy
          exact hread j (List.mem_append_left _ (List.mem_filterMap.2 ⟨.tmp j, by simpa using hx, rfl⟩))
        | const v =>
          simp only [compX] at hy
          split at hy <;> cases hy
          exact constLV_sound G ‹_›
        | func f =>
          simp only [compX] at hy; cases hy
          exact .fn _ #[] #[] rfl rfl (by simp) (by simp)
        | global g => simp [compX] at hy
      have hgd : ∀ b, gd (T p) d.op.guard = some b → Region.wanted o (yielded ops a.tmps) = b := by
        intro b hb
        refine gd_sound0 (G := G) (by rw [h.tsz, (tr.tmps hs.dsts p (by omega)).1]) hguard (fun j want x hg hx => ?_) hb
        exact hread x (List.mem_append_right _ (by simp [hg, hx]))
      have hnd' : (d.idx :: done).Nodup := List.nodup_cons.2 ⟨fun hm => hn (hdone _ hm).2, hnd⟩
      have hsz : d.idx < L.size := by rw [h.sz]; exact hlt
      -- on with the rest
      have go : ∀ u w' G' m', Inv ops es T S V G0 w0 (L.setIfInBounds d.idx true) (a.put o.dst u) w' m' G' → wpAny P .any ops Q fuel (L.setIfInBounds d.idx true) (a.put o.dst u) w' := by
        intro u w' G' m' hi'
        refine ih _ _ _ m' G' (d.idx :: done) hi' hnd' (fun j hj => ?_) (by simp; omega) (by cases o.dst <;> exact hdf)
        rcases List.mem_cons.1 hj with rfl | hj
        · exact ⟨hlt, by rw [ll_set hsz]; exact .inl rfl⟩
        · exact ⟨(hdone j hj).1, by rw [ll_set hsz]; exact .inr (hdone j hj).2⟩
      have hrun := (tr.run p d hp).1
      have hatc : ∀ e, es[m]? = some e → p < m → e.cls = .c ∧ ¬ LL L e.idx ∧ e.idx ≠ d.idx := fun e he hlt' =>
        ⟨(h.at_ e he).1, (h.at_ e he).2, fun hc => by have := hs.inj m p e d he hp hc; omega⟩
      unfold wpOp
      rw [ho]
      simp only
      rcases Nat.lt_or_ge p m with hpm' | hpm'
      · cases hcl : d.cls with
        | c => exact absurd (h.below p d hpm' hp hcl) hn
        | h =>
          have hheld := tr.held p d hp hcl m hpm' h.mle (fun q e h1 h2 he hc hmem => hn ((hs.must q e _ he hmem).done h.dn (fun o2 ho2 => h.dn _ (h.below q e h2 he hc) o2 ho2)))
          unfold runOp at hheld
          split at hheld
          · rename_i hg
            rw [if_pos (hgd _ hg)]
            refine .inl (op_sound hok hcop hheld h.wr hxs _ _ ?_)
            rintro u w' ⟨G', g1, g2, g3⟩
            refine go u w' G' m (h.next hs hp ho hdst hn hr g3.le g2 h.mle (fun q e h1 h2 h3 => .inl (h.below q e h1 h2 h3)) (fun e he => hatc e he hpm') g1 (h.ext.trans g3.to0) ?_)
            intro q e x hq he hc hl hne hS
            obtain ⟨b1, b2, b3⟩ := h.pend q e x hq he hc hl hS
            obtain ⟨c1, c2, c3⟩ := g3.pend _ (List.getElem?_eq_some_iff.1 b1).1 b2 b3
            exact ⟨b1, c2, c3⟩
          · rename_i hg
            have hw := hgd _ hg
            rw [if_neg (by rw [hw]; simp)]
            simp only [Option.some.injEq, Prod.mk.injEq] at hheld
            exact go undef w G m (h.next hs hp ho hdst hn hr (.refl G) (hheld.1 ▸ .unit G) h.mle (fun q e h1 h2 h3 => .inl (h.below q e h1 h2 h3)) (fun e he => hatc e he hpm') h.wr h.ext
              (fun q e x hq he hc hl hne hS => h.pend q e x hq he hc hl hS))
          · cases hheld
        | a =>
          have hnew := tr.new p d hp hcl
          unfold runOp at hrun
          split at hrun
          · rename_i hg
            rw [if_pos (hgd _ hg)]
            obtain ⟨x, hx, hms⟩ := maker_sound (w := w) (hmk' hcl) hcop hrun hxs
            rw [hx] at hnew
            obtain ⟨b1, b2, b3⟩ := h.pend p d x hpm' hp hcl hn hx
            refine .inl (hms (newOk_inv hnew) _ _ ?_)
            rintro u w' ⟨l, ob, n1, rfl, n3⟩
            obtain ⟨r1, r2⟩ := h.wr.place b1 b2 b3 l ob n1
            refine go u _ _ m (h.next hs hp ho hdst hn hr r2.le n3 h.mle (fun q e h1 h2 h3 => .inl (h.below q e h1 h2 h3)) (fun e he => hatc e he hpm') r1 (h.ext.trans r2) ?_)
            intro q e y hq he hc hl hne hS
            obtain ⟨c1, c2, c3⟩ := h.pend q e y hq he hc hl hS
            refine ⟨c1, ?_, c3⟩
            have hqp : q ≠ p := by rintro rfl; rw [hp] at he; cases he; exact hne rfl
            have hlen : (S q).length ≠ (S p).length := by
              have hmono : ∀ j k, j ≤ k → k ≤ es.length → (S j).length ≤ (S k).length := by
                intro j k hjk hk
                induction hjk with
                | refl => exact Nat.le_refl _
                | @step k hjk ihk =>
                  refine Nat.le_trans (ihk (by omega)) ?_
                  have hget : es[k]? = some es[k] := by simp [show k < es.length by omega]
                  cases hck : es[k].cls with
                  | h => rw [pure_store (tr.pure k _ hget hck) (tr.run k _ hget).1]; exact Nat.le_refl _
                  | a => rcases hmk k _ hget hck with e | ⟨y, e⟩ <;> rw [e] <;> simp
                  | c => exact tr.len k _ hget hck
              rcases Nat.lt_or_ge q p with hlt' | hge'
              · have := hmono (q + 1) p (by omega) (by omega)
                rw [hS] at this; simp at this; omega
              · have := hmono (p + 1) q (by omega) (by have := h.mle; omega)
                rw [hx] at this; simp at this; omega
            simp [Gh.addLoc, hlen, c2]
          · rename_i hg
            have hw := hgd _ hg
            rw [if_neg (by rw [hw]; simp)]
            simp only [Option.some.injEq, Prod.mk.injEq] at hrun
            exact go undef w G m (h.next hs hp ho hdst hn hr (.refl G) (hrun.1 ▸ .unit G) h.mle (fun q e h1 h2 h3 => .inl (h.below q e h1 h2 h3)) (fun e he => hatc e he hpm') h.wr h.ext
              (fun q e x hq he hc hl hne hS => h.pend q e x hq he hc hl hS))
          · cases hrun
      · obtain rfl : p = m := by omega
        have hcl := (h.at_ d hp).1
        have rest : ∀ u w' G', WR G' (S (p + 1)) w' → VL G' (V p) u → Ext0 G (S p) w G' (S (p + 1)) w' → (∀ (q : Nat) e x, q < p → es[q]? = some e → e.cls = .a → ¬ LL L e.idx → S (q + 1) = S q ++ [x] → (S (p + 1))[(S q).length]? = some x ∧ G'.loc (S q).length = none ∧ ∀ f, G'.hist (S q).length f = none) →
            wpAny P .any ops Q fuel (L.setIfInBounds d.idx true) (a.put o.dst u) w' := by
          intro u w' G' g1 g2 g3 g4
          obtain ⟨m', a1, a2, a3, a4, a5, a6, a7⟩ := advance (G0 := G0) (w0 := w0) (L := L) tr hmk (es.length - (p + 1)) (p + 1) rfl (by omega) g1 (h.ext.trans g3) (fun q e x hq he hc hl hS => by
            rcases Nat.lt_or_ge q p with hq' | hq'
            · exact g4 q e x hq' he hc hl hS
            · obtain rfl : q = p := by omega
              rw [hp] at he; cases he; rw [hcl] at hc; cases hc)
          refine go u w' G' m' (h.next hs hp ho hdst hn hr g3.le g2 a2 (fun q e hq he hc => ?_) (fun e he => ?_) a5 a6 (fun q e x hq he hc hl hne hS => a7 q e x hq he hc hl hS))
          · rcases Nat.lt_trichotomy q p with hq' | rfl | hq'
            · exact .inl (h.below q e hq' he hc)
            · rw [hp] at he; cases he; exact .inr rfl
            · exact absurd hc (a3 q e hq' hq he)
          · refine ⟨a4 e he, fun hl => ?_, fun hc => by have := hs.inj m' p e d he hp hc; omega⟩
            obtain ⟨oe, re, hoe, _⟩ := hs.get m' e he
            exact hn ((hs.ord p m' d e o oe (by omega) hp he ho hoe (.inl hcl)).done h.dn (fun o2 ho2 => h.dn _ hl o2 ho2))
        unfold runOp at hrun
        split at hrun
        · rename_i hg
          rw [if_pos (hgd _ hg)]
          refine .inl (op_sound hok hcop hrun h.wr hxs _ _ ?_)
          rintro u w' ⟨G', g1, g2, g3⟩
          refine rest u w' G' g1 g2 g3.to0 (fun q e x hq he hc hl hS => ?_)
          obtain ⟨b1, b2, b3⟩ := h.pend q e x hq he hc hl hS
          obtain ⟨c1, c2, c3⟩ := g3.pend _ (List.getElem?_eq_some_iff.1 b1).1 b2 b3
          exact ⟨by rw [c1]; exact b1, c2, c3⟩
        · rename_i hg
          have hw := hgd _ hg
          rw [if_neg (by rw [hw]; simp)]
          simp only [Option.some.injEq, Prod.mk.injEq] at hrun
          obtain ⟨e1, e2⟩ := hrun
          exact rest undef w G (e2 ▸ h.wr) (e1 ▸ .unit G) (e2 ▸ (Ext.refl ..).to0) (fun q e x hq he hc hl hS => e2 ▸ h.pend q e x hq he hc hl hS)
        · cases hrun
end
end Go.LS
set_option linter.unusedVariables false
set_option linter.unusedSimpArgs false
namespace Go.LS
def withN {α : Type} (n : Nat) (f : Nat → α) : α :=
  match n with
  | 0 => f 0
  | k + 1 => f (k + 1)
theorem withN_eq {α : Type} (n : Nat) (f : Nat → α) : withN n f = f n := by cases n <;> rfl
def edgeMask (acc : List Nat) : List Edge → Nat → Nat
  | [], m => m
  | e :: r, m => if Region.binds .any e then edgeMask acc r (m ||| 2 ^ e.on ||| acc.getD e.on 0) else edgeMask acc r m
def masks : List Oper → List Nat → List Nat
  | [], acc => acc
  | o :: r, acc => withN (edgeMask acc o.after.toList 0) fun m => masks r (acc ++ [m])
theorem edgeMask_sound {ops : Array Oper} {acc : List Nat} (hacc : ∀ j i, (acc.getD j 0).testBit i = true → Dep ops j i) {j : Nat} {o : Oper} (ho : ops[j]? = some o) :
    ∀ (l : List Edge) (m : Nat), (∀ e ∈ l, e ∈ o.after) → (∀ i, m.testBit i = true → Dep ops j i) → ∀ i, (edgeMask acc l m).testBit i = true → Dep ops j i
  | [], m, _, hm, i, h => hm i h
  | e :: r, m, hl, hm, i, h => by
    simp only [edgeMask] at h
    split at h
    · rename_i hb
      refine edgeMask_sound hacc ho r _ (fun x hx => hl x (by simp [hx])) (fun i hi => ?_) i h
      simp only [Nat.testBit_or, Bool.or_eq_true] at hi
      rcases hi with (hi | hi) | hi
      · exact hm i hi
      · rw [Nat.testBit_two_pow] at hi
        have := of_decide_eq_true hi
        subst this
        exact .one ho (hl e (by simp)) hb
      · exact .more ho (hl e (by simp)) hb (hacc _ _ hi)
    · exact edgeMask_sound hacc ho r _ (fun x hx => hl x (by simp [hx])) hm i h
theorem masks_sound {ops : Array Oper} : ∀ (l pre : List Oper) (acc : List Nat), ops.toList = pre ++ l → acc.length = pre.length → (∀ j i, (acc.getD j 0).testBit i = true → Dep ops j i) →
    ∀ j i, ((masks l acc).getD j 0).testBit i = true → Dep ops j i
  | [], pre, acc, _, _, h => h
  | o :: r, pre, acc, he, hlen, h => by
    simp only [masks, withN_eq]
    refine masks_sound r (pre ++ [o]) _ (by simp [he]) (by simp [hlen]) ?_
    have ho : ops[pre.length]? = some o := by
      rw [← Array.getElem?_toList, he]
      simp
    intro j i hj
    rcases Nat.lt_trichotomy j acc.length with hlt | rfl | hgt
    · rw [List.getD_eq_getElem?_getD, List.getElem?_append_left hlt, ← List.getD_eq_getElem?_getD] at hj
      exact h j i hj
    · rw [List.getD_eq_getElem?_getD, get_snoc] at hj
      rw [hlen]
      exact edgeMask_sound h ho _ 0 (by simp) (fun i hi => by simp at hi) i hj
    · rw [List.getD_eq_getElem?_getD, List.getElem?_eq_none (by simp; omega)] at hj
      simp at hj
def clsOf (o : LOp) : Cls :=
  if o.makes then .a else
  match o with
  | .mkrow _ _ _ _ _ => .h
  | o => if pureV o .und then .h else .c
def readyB (direct : Nat) (done : Nat) : Bool := (direct &&& done) == direct
def pickNext (dir : List Nat) (cls : List Cls) (done : Nat) : List Nat → Option Nat → Option Nat
  | [], found => found
  | i :: r, found =>
    if done.testBit i then pickNext dir cls done r found
    else if readyB (dir.getD i 0) done then
      match cls.getD i .c with
      | .c => pickNext dir cls done r (match found with | some x => some x | none => some i)
      | _ => some i
    else pickNext dir cls done r found
def orderOf (dir : List Nat) (cls : List Cls) (n : Nat) : Nat → Nat → List Nat
  | 0, _ => []
  | k + 1, done => match pickNext dir cls done (List.range n) none with
    | some i => withN (done ||| 2 ^ i) fun done' => i :: orderOf dir cls n k done'
    | none => []
def mkEs (los : List LOper) (cls : List Cls) (ms : List Nat) (order : List Nat) : List DOp :=
  order.map fun i => ⟨cls.getD i .c, i, match cls.getD i .c with | .c => (List.range los.length).filter fun j => (ms.getD i 0).testBit j && (match cls.getD j .c with | .h => true | _ => false) | _ => [], los.getD i default⟩
def confB (looks : List (List Nat)) (d e : DOp) : Bool :=
  (match d.op.dst with | some x => (looks.getD e.idx []).contains x | none => false) || (match e.op.dst with | some x => (looks.getD d.idx []).contains x | none => false)
def pairOk (ms : List Nat) (looks : List (List Nat)) (d e : DOp) : Bool :=
  !(d.idx == e.idx) && (match d.op.dst, e.op.dst with | some x, some y => !(x == y) | _, _ => true) &&
  (!((match d.cls with | .c => true | _ => false) || confB looks d e) || (ms.getD e.idx 0).testBit d.idx)
def pairsB (f : DOp → DOp → Bool) : List DOp → Bool
  | [] => true
  | d :: r => r.all (f d) && pairsB f r
theorem pairsB_inv {f : DOp → DOp → Bool} : ∀ {es : List DOp}, pairsB f es = true → ∀ (p q : Nat) (d e : DOp), p < q → es[p]? = some d → es[q]? = some e → f d e = true
  | [], _, p, q, d, e, _, hp, _ => by simp at hp
  | x :: r, h, p, q, d, e, hpq, hp, hq => by
    simp only [pairsB, Bool.and_eq_true] at h
    cases q with
    | zero => omega
    | succ q =>
      cases p with
      | zero => simp at hp; subst hp; exact List.all_eq_true.1 h.1 e (List.mem_of_getElem? (by simpa using hq))
      | succ p => exact pairsB_inv h.2 p q d e (by omega) (by simpa using hp) (by simpa using hq)
def topoB (ops : Array Oper) : List Nat → List DOp → Bool
  | _, [] => true
  | bef, d :: r => (match ops[d.idx]? with
    | some o => o.after.toList.all fun e => !Region.binds .any e || bef.contains e.on
    | none => false) && topoB ops (d.idx :: bef) r
theorem topoB_inv {ops : Array Oper} : ∀ {es : List DOp} {bef : List Nat}, topoB ops bef es = true → ∀ (p : Nat) (d : DOp) (o : Oper) (e : Edge), es[p]? = some d → ops[d.idx]? = some o → e ∈ o.after → Region.binds .any e = true →
    e.on ∈ bef ∨ ∃ (q : Nat) (d' : DOp), q < p ∧ es[q]? = some d' ∧ d'.idx = e.on
  | [], bef, _, p, d, o, e, hp, _, _, _ => by simp at hp
  | x :: r, bef, h, p, d, o, e, hp, ho, he, hb => by
    simp only [topoB, Bool.and_eq_true] at h
    cases p with
    | zero =>
      simp at hp; subst hp
      have h1 := h.1
      rw [ho] at h1
      have := List.all_eq_true.1 h1 e (by simpa using he)
      simp [hb] at this
      exact .inl this
    | succ p =>
      rcases topoB_inv h.2 p d o e (by simpa using hp) ho he hb with hm | ⟨q, d', hq, hd, hi⟩
      · rcases List.mem_cons.1 hm with hm | hm
        · exact .inr ⟨0, x, by omega, rfl, hm.symm⟩
        · exact .inl hm
      · exact .inr ⟨q + 1, d', by omega, by simpa using hd, hi⟩
def schedB (ops : Array Oper) (los : List LOper) (ms : List Nat) (looks : List (List Nat)) (es : List DOp) : Bool :=
  ((List.range ops.size).all fun i => es.any fun d => d.idx == i) &&
  (es.all fun d => decide (d.idx < los.length) && (match d.cls with | .a => d.op.op.makes | _ => true) && d.must.all fun j => (ms.getD d.idx 0).testBit j) &&
  pairsB (pairOk ms looks) es && topoB ops [] es
theorem compOps_get {P : Program} {rs : Nat → Bool} {ops : Array Oper} : ∀ {l : List Oper} {k : Nat} {los : List LOper}, compOps P rs ops k l = some los →
    los.length = l.length ∧ ∀ (i : Nat) lo, los[i]? = some lo → ∃ o, l[i]? = some o ∧ compOper P (rs (k + i)) ops o = some lo
  | [], k, los, h => by simp only [compOps] at h; cases h; simp
  | o :: l, k, los, h => by
    simp only [compOps] at h
    split at h
    · rename_i x lr hx hlr
      cases h
      obtain ⟨h1, h2⟩ := compOps_get hlr
      refine ⟨by simp [h1], fun i lo hi => ?_⟩
      cases i with
      | zero => simp at hi; subst hi; exact ⟨o, rfl, hx⟩
      | succ i =>
        obtain ⟨o', a, b⟩ := h2 i lo (by simpa using hi)
        exact ⟨o', by simpa using a, by rw [← b]; congr 2; omega⟩
    · cases h
theorem schedB_sound {P : Program} {rs : Nat → Bool} {ops : Array Oper} {los : List LOper} (hc : compOps P rs ops 0 ops.toList = some los) {cls : List Cls} {order : List Nat}
    (h : schedB ops los (masks ops.toList []) (ops.toList.map fun o => o.looksAt ops) (mkEs los cls (masks ops.toList []) order) = true) :
    Sched P ops (mkEs los cls (masks ops.toList []) order) := by
  have hms := masks_sound (ops := ops) ops.toList [] [] rfl rfl (fun j i hj => by simp at hj)
  generalize hm : masks ops.toList [] = ms at h hms ⊢
  generalize he : mkEs los cls ms order = es at h ⊢
  unfold schedB at h
  simp only [Bool.and_eq_true] at h
  obtain ⟨⟨⟨h1, h2⟩, h3⟩, h4⟩ := h
  have hop : ∀ d ∈ es, d.op = los.getD d.idx default := by
    intro d hd
    rw [← he] at hd
    simp only [mkEs, List.mem_map] at hd
    obtain ⟨i, _, rfl⟩ := hd
    rfl
  have hall : ∀ (p : Nat) (d : DOp), es[p]? = some d → ∃ o, ops[d.idx]? = some o ∧ compOper P (rs d.idx) ops o = some d.op ∧ (d.cls = .a → d.op.op.makes = true) ∧ ∀ j ∈ d.must, Dep ops d.idx j := by
    intro p d hp
    have hmem := List.mem_of_getElem? hp
    have := List.all_eq_true.1 h2 d hmem
    simp only [Bool.and_eq_true, decide_eq_true_eq] at this
    obtain ⟨⟨b1, b2⟩, b3⟩ := this
    obtain ⟨o, c1, c2⟩ := (compOps_get hc).2 d.idx (los[d.idx]) (by simp [b1])
    refine ⟨o, by rw [← Array.getElem?_toList]; exact c1, ?_, fun hcl => by rw [hcl] at b2; exact b2, fun j hj => hms _ _ (List.all_eq_true.1 b3 j hj)⟩
    rw [hop d hmem, List.getD_eq_getElem?_getD, List.getElem?_eq_getElem b1]
    simpa using c2
  have hpair := pairsB_inv h3
  have hlooks : ∀ i o, ops[i]? = some o → (ops.toList.map fun o => o.looksAt ops).getD i [] = o.looksAt ops := by
    intro i o ho
    rw [List.getD_eq_getElem?_getD, List.getElem?_map, Array.getElem?_toList, ho]
    rfl
  refine ⟨fun p d hp => ?_, fun i hi => ?_, ?_, ?_, ?_, ?_, ?_⟩
  · obtain ⟨o, a1, a2, a3, _⟩ := hall p d hp
    exact ⟨o, _, a1, a2, a3⟩
  · have := List.all_eq_true.1 h1 i (List.mem_range.2 hi)
    obtain ⟨d, hd, hb⟩ := List.any_eq_true.1 this
    obtain ⟨p, hp⟩ := List.getElem?_of_mem hd
    exact ⟨p, d, hp, by simpa using hb⟩
  · intro p q d e hp hq hi
    rcases Nat.lt_trichotomy p q with hlt | rfl | hgt
    · have := hpair p q d e hlt hp hq
      simp [pairOk, hi] at this
    · rfl
    · have := hpair q p e d hgt hq hp
      simp [pairOk, hi] at this
  · intro p q d e x hp hq hd' he'
    rcases Nat.lt_trichotomy p q with hlt | rfl | hgt
    · have := hpair p q d e hlt hp hq
      simp [pairOk, hd', he'] at this
    · rfl
    · have := hpair q p e d hgt hq hp
      simp [pairOk, hd', he'] at this
  · intro p q d e o o' hpq hp hq ho ho' hcc
    have := hpair p q d e hpq hp hq
    simp only [pairOk, Bool.and_eq_true, Bool.or_eq_true, Bool.not_eq_true'] at this
    rcases this.2 with hf | hb
    · exfalso
      simp only [Bool.or_eq_false_iff] at hf
      rcases hcc with hcl | hcf
      · rw [hcl] at hf; exact absurd hf.1 (by simp)
      · obtain ⟨o1, ho1, hc1, _⟩ := hall p d hp
        obtain ⟨o2, ho2, hc2, _⟩ := hall q e hq
        rw [ho] at ho1; cases ho1
        rw [ho'] at ho2; cases ho2
        have hf2 := hf.2
        simp only [confB, Bool.or_eq_false_iff, (dst_of_comp hc1).1, (dst_of_comp hc2).1, hlooks _ _ ho, hlooks _ _ ho'] at hf2
        rcases hcf with ⟨x, hx, hmem⟩ | ⟨x, hx, hmem⟩
        · have := hf2.1; rw [hx] at this; simp at this; exact this hmem
        · have := hf2.2; rw [hx] at this; simp at this; exact this hmem
    · exact hms _ _ hb
  · intro q e i hq hi
    obtain ⟨o, _, _, _, a4⟩ := hall q e hq
    exact a4 i hi
  · intro p d o e hp ho he hb
    rcases topoB_inv h4 p d o e hp ho he hb with hm | h
    · cases hm
    · exact h
def clsM (o : LOp) : Cls :=
  match o with
  | .mkslice _ _ _ (.const (.p (.int _ 0))) _ => .c
  | o => clsOf o
def compDrawn1 (P : Program) (rs : Nat → Bool) (ops : Array Oper) (cl : LOp → Cls) : Option (List DOp) :=
  match compOps P rs ops 0 ops.toList with
  | none => none
  | some los =>
    let ms := masks ops.toList []
    let cls := los.map fun o => cl o.op
    let dir := ops.toList.map fun o => o.after.toList.foldl (fun m e => if Region.binds .any e then m ||| 2 ^ e.on else m) 0
    let es := mkEs los cls ms (orderOf dir cls los.length los.length 0)
    if schedB ops los ms (ops.toList.map fun o => o.looksAt ops) es then some es else none
def compDrawn (P : Program) (rs : Nat → Bool) (ops : Array Oper) : Option (List DOp) :=
  match compDrawn1 P rs ops clsM with
  | some es => some es
  | none => compDrawn1 P rs ops clsOf
theorem compDrawn1_sound {P : Program} (hm : P.follows .mixedOrders = true) {rs : Nat → Bool} {ops : Array Oper} {cl : LOp → Cls} {es : List DOp} (h : compDrawn1 P rs ops cl = some es) : DrawnR P ops es := by
  unfold compDrawn1 at h
  split at h
  · cases h
  · rename_i los hc
    simp only at h
    split at h
    · rename_i hb
      cases h
      have hs := schedB_sound hc hb
      generalize mkEs los _ _ _ = es at hs ⊢
      intro call hok t st t' st' G w a Q id hr h ht hq
      obtain ⟨T, S, V, tr, e1, e2, e3, e4, _⟩ := runDrawn_trace es [] t t' st st' hr (by simp)
      subst e1; subst e2; subst e3; subst e4
      refine wp_region_any hm ?_
      have h' : WR G (S 0) { w with drawn := w.drawn + 1 } := h.of_heap rfl
      have hx' : Ext0 G (S 0) w G (S 0) { w with drawn := w.drawn + 1 } := (Ext.of_heap (G := G) (st := S 0) (w := w) (w' := { w with drawn := w.drawn + 1 }) rfl rfl rfl rfl).to0
      have hmk : ∀ (p : Nat) (d : DOp), es[p]? = some d → d.cls = .a → S (p + 1) = S p ∨ ∃ x, S (p + 1) = S p ++ [x] := drawn_mk hs tr
      obtain ⟨m, a1, a2, a3, a4, a5, a6, a7⟩ := advance (G0 := G) (w0 := w) (L := Array.replicate ops.size false) tr hmk es.length 0 rfl (Nat.zero_le _) h' hx' (fun p d x hp => by omega)
      have hnl : ∀ i, ¬ LL (Array.replicate ops.size false) i := by
        intro i hi
        unfold LL at hi
        by_cases hlt : i < ops.size
        · simp [hlt] at hi
        · simp [hlt] at hi
      refine drawn_any (G0 := G) (w0 := w) hok hs tr (df := a.defers) (fun a' w' G' g1 g2 g3 g4 => hq a' w' G' g1 g2 g3 g4) ops.size _ a _ m G [] ⟨by simp, fun i hi => absurd hi (hnl i), a2, fun p d hp hd hc => absurd hc (a3 p d (by omega) hp hd), fun d hd => ⟨a4 d hd, hnl _⟩, a5, a6, a7, ht.1, fun i hi p d hp hl => absurd hl (hnl _), fun i hi _ => ht.get i⟩
        List.nodup_nil (by simp) (by simp) rfl
    · cases h
theorem compDrawn_sound {P : Program} (hm : P.follows .mixedOrders = true) {rs : Nat → Bool} {ops : Array Oper} {es : List DOp} (h : compDrawn P rs ops = some es) : DrawnR P ops es := by
  unfold compDrawn at h
  split at h
  · rename_i es' he
    cases h
    exact compDrawn1_sound hm he
  · exact compDrawn1_sound hm h
def autoR (P : Program) (ops : Array Oper) (i : Nat) : Bool :=
  match ops[i]? with
  | some o => (match o.op, o.dst with
    | .buildSlice _ _ _, some d => ops.toList.any fun q => (match q.op with
      | .convert src dst (.tmp x) => x == d && src == dst && (match P.underlying src with | some (.slice _) => true | _ => false)
      | _ => false)
    | _, _ => false)
  | none => false
def compC0 (P : Program) (rs : Nat → Nat → Bool) : Code → Option LCode
  | .skip => some .skip
  | .region id ops draw =>
    if draw then (match compDrawn P (fun i => rs id i || autoR P ops i) ops with | some es => some (.drawn es) | none => some .fail)
    else (match compOps P (fun i => rs id i || autoR P ops i) ops 0 ops.toList with | some l => some (.region l) | none => some .fail)
  | .seq a b => match compC0 P rs a, compC0 P rs b with
    | some x, some y => some (.seq x y)
    | _, _ => none
  | .cond c a b => match compX c, compC0 P rs a, compC0 P rs b with
    | some z, some x, some y => some (.cond z x y)
    | _, _, _ => none
  | .block id c => match compC0 P rs c with
    | some x => some (.block id [] x)
    | none => none
  | .loop c => match compC0 P rs c with
    | some x => some (.loop [] x)
    | none => none
  | .exit id => some (.exit id [])
  | .ret => some (.ret [])
  | _ => some .fail
def asksNil (P : Program) (rs : Nat → Nat → Bool) (r : Code) (x : Operand) : Bool :=
  match r, x with
  | .region _ ops false, .tmp t => ops.toList.any fun o => (o.dst == some t) && (match compOp0 P false o.op with | some (.nileq _ .slice _) => true | _ => false)
  | _, _ => false
def compC (P : Program) (rs : Nat → Nat → Bool) : Code → Option LCode
  | .seq (.seq r (.cond x a b)) c => if asksNil P rs r x then
      match compX x, compC0 P rs r, compC0 P rs a, compC0 P rs b, compC0 P rs c with
      | some z, some lr, some la, some lb, some lc => some (.seq lr (.both z la lb lc))
      | _, _, _, _, _ => none
    else compC0 P rs (.seq (.seq r (.cond x a b)) c)
  | .seq k (.seq (.seq r (.cond x a b)) c) => if asksNil P rs r x then
      match compX x, compC0 P rs k, compC0 P rs r, compC0 P rs a, compC0 P rs b, compC0 P rs c with
      | some z, some lk, some lr, some la, some lb, some lc => some (.seq lk (.seq lr (.both z la lb lc)))
      | _, _, _, _, _, _ => none
    else compC0 P rs (.seq k (.seq (.seq r (.cond x a b)) c))
  | c => compC0 P rs c
theorem compC0_sound {P : Program} (hm : P.follows .mixedOrders = true) {rs : Nat → Nat → Bool} : ∀ {c : Code} {lc : LCode}, compC0 P rs c = some lc → CR P c lc
  | .skip, lc, h => by simp only [compC0] at h; cases h; exact .skip
  | .region id ops draw, lc, h => by
    simp only [compC0] at h
    split at h
    · rename_i hd
      subst hd
      split at h <;> cases h
      · exact .drawn id (compDrawn_sound hm ‹_›)
      · exact .fail _
    · rename_i hd
      have : draw = false := by cases draw <;> simp_all
      subst this
      split at h <;> cases h
      · exact .region id ‹_›
      · exact .fail _
  | .seq a b, lc, h => by
    simp only [compC0] at h
    split at h <;> cases h
    exact .seq (compC0_sound hm ‹_›) (compC0_sound hm ‹_›)
  | .cond c a b, lc, h => by
    simp only [compC0] at h
    split at h <;> cases h
    exact .cond ‹_› (compC0_sound hm ‹_›) (compC0_sound hm ‹_›)
  | .block id c, lc, h => by
    simp only [compC0] at h
    split at h <;> cases h
    exact .block id _ (compC0_sound hm ‹_›)
  | .loop c, lc, h => by
    simp only [compC0] at h
    split at h <;> cases h
    exact .loop _ (compC0_sound hm ‹_›)
  | .exit id, lc, h => by simp only [compC0] at h; cases h; exact .exit id _
  | .ret, lc, h => by simp only [compC0] at h; cases h; exact .ret _
  | .rangeFunc .., lc, h => by simp only [compC0] at h; cases h; exact .fail _
  | .scope _, lc, h => by simp only [compC0] at h; cases h; exact .fail _
  | .label _, lc, h => by simp only [compC0] at h; cases h; exact .fail _
  | .goto _, lc, h => by simp only [compC0] at h; cases h; exact .fail _
  | .refuse _, lc, h => by simp only [compC0] at h; cases h; exact .fail _
theorem compC_sound {P : Program} (hm : P.follows .mixedOrders = true) {rs : Nat → Nat → Bool} {c : Code} {lc : LCode} (h : compC P rs c = some lc) : CR P c lc := by
  unfold compC at h
  split at h
  · split at h
    · split at h
      · cases h
        exact .both ‹_› (compC0_sound hm ‹_›) (compC0_sound hm ‹_›) (compC0_sound hm ‹_›) (compC0_sound hm ‹_›)
      · cases h
    · exact compC0_sound hm h
  · split at h
    · split at h
      · cases h
        exact .seq (compC0_sound hm ‹_›) (.both ‹_› (compC0_sound hm ‹_›) (compC0_sound hm ‹_›) (compC0_sound hm ‹_›) (compC0_sound hm ‹_›))
      · cases h
    · exact compC0_sound hm h
  · exact compC0_sound hm h
theorem CR.annot {P : Program} {c : Code} {lc : LCode} (h : CR P c lc) (n : Nat) (ret : List Nat) : ∀ out env, CR P c (annot n ret lc out env) := by
  induction h with
  | skip => intro _ _; exact .skip
  | region id h => intro _ _; exact .region id h
  | drawn id h => intro _ _; exact .drawn id h
  | seq _ _ ih1 ih2 => intro _ _; exact .seq (ih1 _ _) (ih2 _ _)
  | cond hx _ _ ih1 ih2 => intro _ _; exact .cond hx (ih1 _ _) (ih2 _ _)
  | both hx _ _ _ _ ih0 ih1 ih2 ih3 => intro _ _; exact .both hx (ih0 _ _) (ih1 _ _) (ih2 _ _) (ih3 _ _)
  | block id mask _ ih => intro _ _; exact .block id _ (ih _ _)
  | loop mask _ ih => intro _ _; exact .loop _ (ih _ _)
  | exit id mask => intro _ _; exact .exit id _
  | ret mask => intro _ _; exact .ret _
  | fail c => intro _ _; exact .fail c
def LRes.tmp' : LRes → Nat
  | .tmp t => t
  | .cell t _ _ => t
def compF (P : Program) (rs : Nat → Nat → Bool) (fn : Func) : Option LFn :=
  match fn.body with
  | none => none
  | some c => match compC P rs c, compRes P fn.results.toList with
    | some lc, some res => some ⟨fn.ntmps, res, annot fn.ntmps (res.map LRes.tmp') lc (res.map LRes.tmp') []⟩
    | _, _ => none
theorem compF_sound {P : Program} (hm : P.follows .mixedOrders = true) {rs : Nat → Nat → Bool} {f : FuncId} {fn : Func} {lf : LFn} (hf : P.funcs[f]? = some fn) (hpl : plainFn P f = true) (h : compF P rs fn = some lf) : FR P f lf := by
  unfold compF at h
  split at h
  · cases h
  · rename_i c hc
    split at h
    · rename_i lc res h1 h2
      cases h
      exact ⟨⟨fn, c, hf, hc, rfl, (compC_sound hm h1).annot _ _ _ _, h2⟩, hpl⟩
    · cases h
end Go.LS
namespace Go.LS
abbrev iI (n : Int) : LV := .p (.int .i64 n)
def ml : Nat → List Nat → List Bool := fun n l => go 0 n l
where
  go (i : Nat) : Nat → List Nat → List Bool
    | 0, _ => []
    | n + 1, [] => false :: go (i + 1) n []
    | n + 1, j :: r => match Nat.beq i j with
      | true => true :: go (i + 1) n r
      | false => false :: go (i + 1) n (j :: r)
def AllFR (P : Program) : Nat → List (Option LFn) → Prop
  | _, [] => True
  | k, none :: r => AllFR P (k + 1) r
  | k, some lf :: r => FR P k lf ∧ AllFR P (k + 1) r
theorem AllFR.get {P : Program} : ∀ {l : List (Option LFn)} {k : Nat}, AllFR P k l → ∀ (i : Nat) lf, l[i]? = some (some lf) → FR P (k + i) lf
  | [], k, _, i, lf, h => by simp at h
  | none :: r, k, h, i, lf, hi => by
    cases i with
    | zero => simp at hi
    | succ i => have := AllFR.get (l := r) (k := k + 1) h i lf (by simpa using hi); rwa [Nat.add_assoc, Nat.add_comm 1] at this
  | some x :: r, k, h, i, lf, hi => by
    cases i with
    | zero => simp at hi; subst hi; exact h.1
    | succ i => have := AllFR.get (l := r) (k := k + 1) h.2 i lf (by simpa using hi); rwa [Nat.add_assoc, Nat.add_comm 1] at this
def lpOf (tab : List (Option LFn)) (weak : List Nat) : LProg := { fns := fun f => match tab[f]? with | some x => x | none => none, summ := fun _ => none, weak := fun f => weak.contains f }
theorem prOf {P : Program} (tab : List (Option LFn)) (weak : List Nat) (h : AllFR P 0 tab) : PR P (lpOf tab weak) where
  fns f lf hf := by
    simp only [lpOf] at hf
    split at hf
    · rename_i x hx
      subst hf
      have := h.get f lf hx
      simpa using this
    · cases hf
  summ f g h := by simp [lpOf] at h
abbrev iR (n : Nat) (o : LOp) : LOper := ⟨some n, o, none⟩
abbrev iG (n : Nat) (o : LOp) (b : Nat) (v : Bool) : LOper := ⟨some n, o, some (b, v)⟩
abbrev xT (n : Nat) : LX := .tmp n
end Go.LS
set_option linter.unusedVariables false
namespace Go.LS
def lpS (tab : List (Option LFn)) (weak wres : List Nat) (sm : List (Nat × (List LV → List LObj → Option (LV × List LObj)))) : LProg :=
  { fns := fun f => match tab[f]? with | some x => x | none => none, summ := fun f => (sm.find? fun x => x.1 == f).map (·.2), weak := fun f => weak.contains f, wres := fun f => wres.contains f }
theorem prS {P : Program} (tab : List (Option LFn)) (weak wres : List Nat) (sm : List (Nat × (List LV → List LObj → Option (LV × List LObj)))) (hs : ∀ x ∈ sm, SummOK P x.1 x.2) (h : AllFR P 0 tab) : PR P (lpS tab weak wres sm) where
  fns f lf hf := by
    simp only [lpS] at hf
    split at hf
    · rename_i x hx
      subst hf
      have := h.get f lf hx
      simpa using this
    · cases hf
  summ f g h := by
    simp only [lpS, Option.map_eq_some_iff] at h
    obtain ⟨⟨f', g'⟩, h1, rfl⟩ := h
    have h2 := List.find?_some h1
    simp only [beq_iff_eq] at h2
    subst h2
    exact hs _ (List.mem_of_find?_eq_some h1)
def sIndexByte (args : List LV) (st : List LObj) : Option (LV × List LObj) :=
  match args with
  | [.p (.str s), .p (.int .u8 c)] => some (.p (.int .i64 (Lib.indexByte s c.toNat.toUInt8)), st)
  | _ => none
def sCompare (args : List LV) (st : List LObj) : Option (LV × List LObj) :=
  match args with
  | [.p (.str a), .p (.str b)] => some (.p (.int .i64 (Lib.compareBytes a b)), st)
  | _ => none
theorem args2 {G : Gh} {p q : PV} {us : Array Value} (h : ArgsR G [.p p, .p q] us) : ∃ a b, us = #[a, b] ∧ VP G.F p a ∧ VP G.F q b := by
  have h1 := h.1
  simp only [List.length_cons, List.length_nil] at h1
  obtain ⟨l⟩ := us
  match l, h1 with
  | [a, b], _ =>
    have e1 := h.2 0 _ rfl
    have e2 := h.2 1 _ rfl
    refine ⟨a, b, rfl, ?_, ?_⟩
    · cases e1; assumption
    · cases e2; assumption
theorem sIndexByte_ok {P : Program} {f : FuncId} (hp : plainFn P f = true)
    (h : ∀ (s : ByteArray) (c : Int) (w : World), Calls P f #[.string s, .int .u8 c] w fun e w' => e = .returned (.int .i64 (Lib.indexByte s.data.toList c.toNat.toUInt8)) ∧ w' = w) : SummOK P f sIndexByte := by
  refine ⟨hp, fun args st res st' hg G w us hw ha => ?_⟩
  unfold sIndexByte at hg
  split at hg
  · rename_i s c
    cases hg
    obtain ⟨a, b, rfl, h1, h2⟩ := args2 ha
    cases h1
    cases h2
    refine (h _ c w).mono ?_
    rintro e w' ⟨rfl, rfl⟩
    exact ⟨_, G, rfl, hw, .p (.int _ _), (Ext.refl _ _ _).to0⟩
  · cases hg
theorem sCompare_ok {P : Program} {f : FuncId} (hp : plainFn P f = true)
    (h : ∀ (a b : ByteArray) (w : World), Calls P f #[.string a, .string b] w fun e w' => e = .returned (.int .i64 (Lib.compareBytes a.data.toList b.data.toList)) ∧ w' = w) : SummOK P f sCompare := by
  refine ⟨hp, fun args st res st' hg G w us hw ha => ?_⟩
  unfold sCompare at hg
  split at hg
  · rename_i s c
    cases hg
    obtain ⟨a, b, rfl, h1, h2⟩ := args2 ha
    cases h1
    cases h2
    refine (h _ _ w).mono ?_
    rintro e w' ⟨rfl, rfl⟩
    exact ⟨_, G, rfl, hw, .p (.int _ _), (Ext.refl _ _ _).to0⟩
  · cases hg
end Go.LS
set_option linter.unusedVariables false
set_option linter.unusedSimpArgs false
namespace Go.LS
open Go.RowKit (Below)
open Go.WideMaps (keyOf_string_mk)
def bleB : List UInt8 → List UInt8 → Bool
  | [], _ => true
  | _ :: _, [] => false
  | a :: x, b :: y => if a.toNat.blt b.toNat then true else if a.toNat == b.toNat then bleB x y else false
theorem bleB_eq : ∀ (x y : List UInt8), bleB x y = decide (x ≤ y)
  | [], y => by simp [bleB]
  | a :: x, [] => by simp [bleB]
  | a :: x, b :: y => by
    have ih := bleB_eq x y
    simp only [bleB, List.cons_le_cons_iff, ih]
    by_cases h1 : a.toNat < b.toNat
    · have : a < b := UInt8.lt_iff_toNat_lt.2 h1
      simp [Nat.blt_eq, h1, this]
    · have h1' : ¬ a < b := fun h => h1 (UInt8.lt_iff_toNat_lt.1 h)
      by_cases h2 : a.toNat = b.toNat
      · have : a = b := UInt8.toNat_inj.1 h2
        subst this
        simp [h1']
      · have : ¬ a = b := fun h => h2 (by rw [h])
        have e : Nat.blt a.toNat b.toNat = false := by rw [← Bool.not_eq_true, Nat.blt_eq]; exact h1
        simp [e, h1', h2, this]
def binsert (x : List UInt8) : List (List UInt8) → List (List UInt8)
  | [] => [x]
  | y :: r => if bleB x y then x :: y :: r else y :: binsert x r
def bsort : List (List UInt8) → List (List UInt8)
  | [] => []
  | x :: r => binsert x (bsort r)
theorem binsert_perm (x : List UInt8) : ∀ l, (binsert x l).Perm (x :: l)
  | [] => .refl _
  | y :: r => by
    simp only [binsert]
    split
    · exact .refl _
    · exact ((binsert_perm x r).cons y).trans (.swap x y r)
theorem bsort_perm : ∀ l, (bsort l).Perm l
  | [] => .refl _
  | x :: r => (binsert_perm x _).trans ((bsort_perm r).cons x)
theorem binsert_sorted (x : List UInt8) : ∀ l : List (List UInt8), l.Pairwise (fun a b => a ≤ b) → (binsert x l).Pairwise (fun a b => a ≤ b)
  | [], _ => by simp [binsert]
  | y :: r, h => by
    obtain ⟨h1, h2⟩ := List.pairwise_cons.1 h
    simp only [binsert, bleB_eq, decide_eq_true_eq]
    split
    · rename_i hxy
      refine List.pairwise_cons.2 ⟨fun z hz => ?_, h⟩
      rcases List.mem_cons.1 hz with rfl | hz
      · exact hxy
      · exact List.le_trans hxy (h1 z hz)
    · rename_i hxy
      have hyx : y ≤ x := by
        rcases List.le_total x y with h' | h'
        · exact absurd h' hxy
        · exact h'
      refine List.pairwise_cons.2 ⟨fun z hz => ?_, binsert_sorted x r h2⟩
      rcases List.mem_cons.1 ((binsert_perm x r).mem_iff.1 hz) with rfl | hz
      · exact hyx
      · exact h1 z hz
theorem bsort_sorted : ∀ l : List (List UInt8), (bsort l).Pairwise (fun a b => a ≤ b)
  | [] => .nil
  | x :: r => binsert_sorted x _ (bsort_sorted r)
theorem bsort_eq (l : List (List UInt8)) : bsort l = l.mergeSort Go.leB := by
  have tr : ∀ a b c : List UInt8, Go.leB a b = true → Go.leB b c = true → Go.leB a c = true := fun a b c h1 h2 => by simp only [Go.leB, decide_eq_true_eq] at *; exact List.le_trans h1 h2
  have to : ∀ a b : List UInt8, (Go.leB a b || Go.leB b a) = true := fun a b => by simp only [Go.leB, Bool.or_eq_true, decide_eq_true_eq]; exact List.le_total a b
  refine List.Perm.eq_of_pairwise (le := fun a b => Go.leB a b = true) (fun a b _ _ h1 h2 => ?_) ((bsort_sorted l).imp fun h => by simpa [Go.leB] using h) (List.pairwise_mergeSort tr to l) ((bsort_perm l).trans (List.mergeSort_perm l Go.leB).symm)
  simp only [Go.leB, decide_eq_true_eq] at h1 h2
  exact List.le_antisymm h1 h2
theorem WR.below {G : Gh} {st : List LObj} {w w' : World} (h : WR G st w) (hb : Below w.heap.size w w') : WR G st w' ∧ Ext G st w G st w' := by
  have hh : ∀ {b : Nat} {ob : Obj}, w.heap[b]? = some ob → w'.heap[b]? = some ob := fun {b ob} e => by rw [hb.block b (lt_of_heap e)]; exact e
  refine ⟨⟨?_, h.dom, ?_, ?_, ?_, ?_, h.uniq, h.ownF, h.kind⟩, ⟨.refl G, hb.os, hb.tape, hb.output, hb.size, fun b hlt _ => hb.block b hlt, fun o b ho _ => ⟨o, ho⟩, fun _ _ _ hv _ _ => hv, fun _ _ h k => ⟨rfl, h, k⟩, Nat.le_refl _⟩⟩
  · intro b o v hv
    have := h.fr b o v hv
    have hlt := h.fr_lt hv
    unfold World.cell? at this ⊢
    simp only [hb.block b hlt]
    exact this
  · intro o es ho l hl
    obtain ⟨blk, size, n, e, arr, ty, hbb, r⟩ := h.row o es ho l hl
    exact ⟨blk, size, n, e, arr, ty, hh hbb, r⟩
  · intro o kv ho l hl
    obtain ⟨blk, e, es, c, hbb, r⟩ := h.map o kv ho l hl
    exact ⟨blk, e, es, c, hh hbb, r⟩
  · intro o s p ho l hl
    obtain ⟨blk, e, hbb⟩ := h.iter o s p ho l hl
    exact ⟨blk, e, hh hbb⟩
  · intro o n hw ho
    obtain ⟨h1, h2⟩ := h.spare o n hw ho
    refine ⟨h1, fun s hs => ?_⟩
    obtain ⟨a, ⟨arr, e, hbb, r⟩, c⟩ := h2 s hs
    exact ⟨a, ⟨arr, e, hh hbb, r⟩, c⟩
theorem WR.freezeNew {G : Gh} {st : List LObj} {w : World} (h : WR G st w) {g : Nat} {arr : Array Value} {e : TypeId} {fz : Nat × Nat} (hb : w.heap[g]? = some (.cells arr e fz)) (hno : ∀ o, ¬ Owns G st o g) :
    WR (G.addF g fun off => arr[off]?) st w := by
  have hle : G.le (G.addF g fun off => arr[off]?) := Gh.le_addF ..
  have hoo : ∀ o c, Owns (G.addF g fun off => arr[off]?) st o c → Owns G st o c := fun o c ho => ho
  have hne : ∀ o c, Owns G st o c → c ≠ g := fun o c ho e => hno o (e ▸ ho)
  refine ⟨?_, h.dom, ?_, ?_, ?_, ?_, h.uniq, ?_, h.kind⟩
  · intro c off v hv
    simp only [Gh.addF] at hv
    split at hv
    · rename_i v' hv'
      cases hv
      exact h.fr c off _ hv'
    · split at hv
      · rename_i hcb
        subst hcb
        unfold World.cell?
        simp only [hb]
        exact hv
      · cases hv
  · intro o es ho l hl
    obtain ⟨blk, size, n, e, arr, ty, hbb, r1, r2, r3⟩ := h.row o es ho l hl
    exact ⟨blk, size, n, e, arr, ty, hbb, r1, r2, r3.mono hle⟩
  · intro o kv ho l hl
    obtain ⟨blk, e, es, c, hbb, r⟩ := h.map o kv ho l hl
    exact ⟨blk, e, es, c, hbb, ⟨r.1.mono hle, r.2⟩⟩
  · exact h.iter
  · intro o n hw ho
    obtain ⟨h1, h2⟩ := h.spare o n hw ho
    refine ⟨h1, fun s hs => ?_⟩
    obtain ⟨a, b, c⟩ := h2 s hs
    refine ⟨a, b, fun off hoff => ?_⟩
    rw [Gh.addF_other (hne o s.blk (by unfold Owns; rw [ho]; exact ⟨s, hs, rfl⟩))]
    exact c off hoff
  · intro o c ho hn off
    rw [Gh.addF_other (hne o c ho)]
    exact h.ownF o c ho hn off
def strKeysOf : List (PV × LV) → Option (List (List UInt8))
  | [] => some []
  | (.str s, _) :: r => match strKeysOf r with
    | some l => some (s :: l)
    | none => none
  | _ => none
def nodupB : List (List UInt8) → Bool
  | [] => true
  | x :: r => !(r.any fun y => bleB x y && bleB y x) && nodupB r
theorem nodupB_iff : ∀ {l : List (List UInt8)}, nodupB l = true → l.Nodup
  | [], _ => List.nodup_nil
  | x :: r, h => by
    simp only [nodupB, Bool.and_eq_true, Bool.not_eq_true', List.any_eq_false] at h
    refine List.nodup_cons.2 ⟨fun hm => ?_, nodupB_iff h.2⟩
    have := h.1 x hm
    simp [bleB_eq] at this
def sSorted (K : FuncId) (args : List LV) (st : List LObj) : Option (LV × List LObj) :=
  match args with
  | [.fn (.func g) [] [.ptr o 0 0]] => if g = K then
      match st[o]? with
      | some (.row [[.mp m]]) => match st[m]? with
        | some (.map kv) => match strKeysOf kv with
          | some ks => if nodupB ks && (ks.all fun k => decide (k.length ≤ maxLen)) && decide (ks.length * 16 ≤ 140737488355328) then some (.p (.sl ((bsort ks).map fun k => [.str k])), st) else none
          | none => none
        | _ => none
      | _ => none
    else none
  | _ => none
def SortedKeysC (P : Program) (f K kt : Nat) : Prop :=
  ∀ (Bm b : Nat) (w : World) (D0 : DataW Unit), Bm < w.heap.size → w.cell? ⟨Bm, 0, none⟩ = some (.map (some b)) → w.ownsMap P kt (fun _ => some (.nil, [])) b (Maps.size D0) D0 → Maps.size D0 ≤ maxLen → Maps.size D0 * 16 ≤ 140737488355328 →
    Calls P f #[.func (.func K) #[] #[.pointer (some ⟨Bm, 0, none⟩)]] w fun e w' => ∃ (v : Value) (ss : List (List UInt8)), e = .returned v ∧ ss.Perm (Go.strKeys D0) ∧
      w'.ownsRow w.heap.size kt 1 v ss.length ((ss.mergeSort Go.leB).map Go.Proofs.encStr) ∧ (v = .slice none 0 0 ↔ ss = []) ∧ Below w.heap.size w w'
theorem args1 {G : Gh} {p : LV} {us : Array Value} (h : ArgsR G [p] us) : ∃ a, us = #[a] ∧ VL G p a := by
  have h1 := h.1
  simp only [List.length_cons, List.length_nil] at h1
  obtain ⟨l⟩ := us
  match l, h1 with
  | [a], _ => exact ⟨a, rfl, h.2 0 _ rfl⟩
theorem strKeysOf_get : ∀ {kv : List (PV × LV)} {ks : List (List UInt8)}, strKeysOf kv = some ks → ks.length = kv.length ∧ ∀ (i : Nat) k v, kv[i]? = some (k, v) → ∃ s, k = .str s ∧ ks[i]? = some s
  | [], ks, h => by simp only [strKeysOf] at h; cases h; exact ⟨rfl, by simp⟩
  | (p, v) :: r, ks, h => by
    cases p <;> simp only [strKeysOf] at h <;> try (cases h; done)
    split at h
    · rename_i l hl
      cases h
      obtain ⟨h1, h2⟩ := strKeysOf_get hl
      refine ⟨by simp [h1], fun i k v hi => ?_⟩
      cases i with
      | zero => simp at hi; obtain ⟨rfl, rfl⟩ := hi; exact ⟨_, rfl, rfl⟩
      | succ i => simpa using h2 i k v (by simpa using hi)
    · cases h
theorem sSorted_ok {P : Program} {f K kt : Nat} (hp : plainFn P f = true) (hk : P.underlying kt = some .string) (h : SortedKeysC P f K kt) : SummOK P f (sSorted K) := by
  refine ⟨hp, fun args st res st' hg G w us hw ha => ?_⟩
  unfold sSorted at hg
  split at hg
  case h_2 => cases hg
  rename_i g o
  split at hg
  case isFalse => cases hg
  rename_i hgK
  subst hgK
  split at hg
  case h_2 => cases hg
  rename_i m hso
  split at hg
  case h_2 => cases hg
  rename_i kv hsm
  split at hg
  case h_2 => cases hg
  rename_i ks hks
  split at hg
  case isFalse => cases hg
  rename_i hc
  cases hg
  simp only [Bool.and_eq_true, List.all_eq_true, decide_eq_true_eq] at hc
  obtain ⟨⟨c1, c2⟩, c3⟩ := hc
  obtain ⟨u, rfl, hu⟩ := args1 ha
  cases hu with
  | fn f vf vc s1 s2 hf hcap =>
    obtain rfl : vf = #[] := by simpa using s1
    obtain ⟨vc⟩ := vc
    match vc, s2 with
    | [x], _ =>
      have hx := hcap 0 _ rfl
      replace hx : VL G (.ptr o 0 0) x := hx
      obtain ⟨blk, size, n, hloc, hxe⟩ := hx.ptr_inv
      obtain ⟨blk', size', n', e5, arr, ty, hb, hz, hn, hr⟩ := hw.row o _ hso _ hloc
      cases e5
      obtain ⟨y, y1, y2, _⟩ := hr.2 0 0 (.mp m) rfl
      obtain ⟨mb, hml, hmy⟩ := y2.mp_inv
      obtain ⟨mb', e6, es, clock, hmb, hmo, hst⟩ := hw.map m kv hsm _ hml
      cases e6
      obtain ⟨k1, k2⟩ := strKeysOf_get hks
      simp only [Nat.zero_mul, Nat.zero_add] at y1 hxe
      have hcell : w.cell? ⟨blk, 0, none⟩ = some (.map (some mb)) := by
        unfold World.cell?
        simp [hb, y1, hmy]
      -- the entries' keys
      have hkey : ∀ (i : Nat) (e : MapEntry), es[i]? = some e → ∃ s, ks[i]? = some s ∧ e.key = Go.Proofs.encStr s := by
        intro i e he
        have hi : i < kv.length := by rw [← hmo.1]; exact (Array.getElem?_eq_some_iff.1 he).1
        obtain ⟨e', a1, a2, a3⟩ := hmo.2 i kv[i].1 kv[i].2 (by simp [hi])
        rw [he] at a1; cases a1
        obtain ⟨s, b1, b2⟩ := k2 i kv[i].1 kv[i].2 (by simp [hi])
        rw [b1] at a2
        exact ⟨s, b2, a2.str_inv⟩
      have hkeys : es.toList.map (·.key) = ks.map Go.Proofs.encStr := by
        apply List.ext_getElem?
        intro i
        simp only [List.getElem?_map, Array.getElem?_toList]
        cases he : es[i]? with
        | none =>
          have : ks[i]? = none := by rw [List.getElem?_eq_none_iff, k1, ← hmo.1]; exact Array.getElem?_eq_none_iff.1 he
          simp [this]
        | some e => obtain ⟨s, b1, b2⟩ := hkey i e he; simp [b1, b2]
      have hnd : (es.toList.map (·.key)).Nodup := by
        rw [hkeys]
        refine List.pairwise_map.2 ((nodupB_iff c1).imp fun hne he => hne (Go.encStr_inj he))
      have hrd : ∀ (i : Nat) (e : MapEntry), es[i]? = some e → ∃ s, ks[i]? = some s ∧ Go.WideElems.rd P kt (fun _ => some ((.nil : DataW Unit), [])) e = some (.string s, .nil) := by
        intro i e he
        obtain ⟨s, b1, b2⟩ := hkey i e he
        refine ⟨s, b1, ?_⟩
        have hl := c2 s (List.mem_of_getElem? b1)
        unfold Go.WideElems.rd
        rw [b2]
        have := keyOf_string_mk (P := P) (k := kt) hk (s := ⟨s.toArray⟩) (by simpa [ByteArray.size] using hl)
        rw [show Go.Proofs.encStr s = Value.string ⟨s.toArray⟩ from rfl, this]
        simp
      have hsize : es.size * 16 ≤ 140737488355328 := by rw [hmo.1, ← k1]; exact c3
      have hF : Go.WideElems.Fit P kt (fun _ => some ((.nil : DataW Unit), [])) es clock := by
        refine ⟨by unfold maxLen; omega, ⟨hst.1, hst.2, hnd⟩, fun x hx => ?_⟩
        obtain ⟨i, hi⟩ := List.getElem?_of_mem hx
        obtain ⟨s, _, b⟩ := hrd i x (by simpa using hi)
        exact ⟨_, b⟩
      generalize hD : (DataW.map ((es.toList.map (Go.WideElems.rg P kt fun _ => some ((.nil : DataW Unit), []))).foldr DataW.insert []) : DataW Unit) = D0
      have hDs : Maps.size D0 = es.size := by
        rw [← hD, Maps.size_eq, Go.DataW.length_sorted]; simp
      have hown : w.ownsMap P kt (fun _ => some ((.nil : DataW Unit), [])) mb (Maps.size D0) D0 := ⟨es, clock, hmb, hF, by rw [hDs]; exact Nat.le_refl _, hD.symm⟩
      have hkp : (Go.strKeys D0).Perm ks := by
        rw [← hD]
        show List.Perm (List.map (fun p : Lit × DataW Unit => Go.strOf p.1) _) _
        refine ((Go.WideShapes.sorted_perm _).map _).trans ?_
        rw [List.map_map]
        have : es.toList.map ((fun p : Lit × DataW Unit => Go.strOf p.1) ∘ Go.WideElems.rg P kt fun _ => some ((.nil : DataW Unit), [])) = ks := by
          apply List.ext_getElem?
          intro i
          simp only [List.getElem?_map, Array.getElem?_toList]
          cases he : es[i]? with
          | none =>
            have : ks[i]? = none := by rw [List.getElem?_eq_none_iff, k1, ← hmo.1]; exact Array.getElem?_eq_none_iff.1 he
            simp [this]
          | some e =>
            obtain ⟨s, b1, b2⟩ := hrd i e he
            simp [b1, Go.WideElems.rg, b2, Go.strOf]
        rw [this]
      rw [hxe]
      refine (h blk mb w D0 (lt_of_heap hb) hcell hown (by rw [hDs]; unfold maxLen; omega) (by rw [hDs]; exact hsize)).mono ?_
      rintro e w' ⟨v, ss, rfl, hss, hrow, hnil, hbel⟩
      obtain ⟨w1, x1⟩ := hw.below hbel
      have hsort : ss.mergeSort Go.leB = bsort ks := by
        rw [bsort_eq]; exact Go.mergeSort_of_perm (hss.trans hkp)
      have hlen : (bsort ks).length = ss.length := by rw [← hsort]; simp
      rcases hrow.2 with ⟨rfl, h0⟩ | ⟨g, cap, cur, rfl, hbase, hgb, r1, r2, r3, r4⟩
      · have : bsort ks = [] := List.eq_nil_of_length_eq_zero (by rw [hlen]; exact h0)
        rw [this]
        exact ⟨_, G, rfl, w1, .p .nils, x1.to0⟩
      · have hno : ∀ o, ¬ Owns G st o g := fun o ho => by have := hw.owns_lt ho; omega
        have w2 := w1.freezeNew hgb hno
        refine ⟨_, _, rfl, w2, .p ?_, ?_⟩
        · rw [← hlen] at r1 ⊢
          have e1 : (bsort ks).length = ((bsort ks).map fun k => [PV.str k]).length := by simp
          rw [e1]
          refine VP.mk (size := 1) (by simpa using r1) r2 (by simp) ?_
          intro i j p hp
          unfold at2 at hp
          rw [List.getElem?_map] at hp
          cases hq : (bsort ks)[i]? with
          | none => simp [hq] at hp
          | some s =>
            simp only [hq, Option.map_some, Option.bind_some] at hp
            cases j with
            | succ j => simp at hp
            | zero =>
              simp at hp
              subst hp
              refine ⟨Go.Proofs.encStr s, ?_, .str s⟩
              have hcur : cur[i]? = some (Go.Proofs.encStr s) := by
                have := congrArg (fun l => l[i]?) r4
                simp only [hsort, List.getElem?_map, hq, Option.map_some, Nat.mul_one] at this
                rw [List.getElem?_take] at this
                split at this
                · simpa using this
                · cases this
              simp only [Gh.addF, Nat.zero_add, Nat.mul_one, Nat.add_zero]
              cases hF2 : G.F g i with
              | some z => have := hw.fr_lt hF2; omega
              | none => simp [hcur]
        · refine ⟨Gh.le_addF .., x1.os, x1.tape, x1.output, x1.hsz, x1.unch, fun o b ho hb => ⟨o, ho⟩, fun b off v hv hb _ => ?_⟩
          rwa [Gh.addF_other (by omega)] at hv
def sClone (args : List LV) (st : List LObj) : Option (LV × List LObj) :=
  match args with
  | [.mp m] => match st[m]? with
    | some (.map kv) => some (.mp st.length, st ++ [.map kv])
    | _ => none
  | [.p .nilm] => some (.p .nilm, st)
  | _ => none
theorem sClone_ok {P : Program} {f : Nat} (hp : plainFn P f = true) (h1 : ∀ (b : Nat) (es : Array MapEntry) (clock : Nat) (w : World), w.heap[b]? = some (.map es clock) → Calls P f #[.map (some b)] w fun e w' => e = .returned (.map (some w.heap.size)) ∧ w' = w.alloc (.map es clock))
    (h2 : ∀ w, Calls P f #[.map none] w fun e w' => e = .returned (.map none) ∧ w' = w) : SummOK P f sClone := by
  refine ⟨hp, fun args st res st' hg G w us hw ha => ?_⟩
  unfold sClone at hg
  split at hg
  · rename_i m
    split at hg
    · rename_i kv hsm
      cases hg
      obtain ⟨u, rfl, hu⟩ := args1 ha
      obtain ⟨mb, hml, rfl⟩ := hu.mp_inv
      obtain ⟨mb', e6, es, clock, hmb, hmo, hst⟩ := hw.map m kv hsm _ hml
      cases e6
      refine (h1 mb es clock w hmb).mono ?_
      rintro e w' ⟨rfl, rfl⟩
      obtain ⟨r1, r2⟩ := hw.newObj (.map kv) (.map w.heap.size) (.map es clock) (.inr (.inl ⟨kv, es, clock, rfl, rfl, rfl, hmo, hst⟩))
      exact ⟨_, _, rfl, r1, .mp (by simp [Gh.addLoc]), r2.to0⟩
    · cases hg
  · cases hg
    obtain ⟨u, rfl, hu⟩ := args1 ha
    have := hu.nilm_inv
    subst this
    refine (h2 w).mono ?_
    rintro e w' ⟨rfl, rfl⟩
    exact ⟨_, G, rfl, hw, .p .nilm, (Ext.refl _ _ _).to0⟩
  · cases hg
end Go.LS
set_option linter.unusedVariables false
namespace Go.LS
open Go.RowKit
def sOr (g h : List LV → List LObj → Option (LV × List LObj)) (a : List LV) (st : List LObj) : Option (LV × List LObj) := match g a st with
  | some r => some r
  | none => h a st
theorem sOr_ok {P : Program} {f : Nat} {g h : List LV → List LObj → Option (LV × List LObj)} (hg : SummOK P f g) (hh : SummOK P f h) : SummOK P f (sOr g h) := by
  refine ⟨hg.1, fun args st res st' hr => ?_⟩
  unfold sOr at hr
  split at hr
  · rename_i r e; cases hr; exact hg.2 args st res st' e
  · exact hh.2 args st res st' hr
theorem WR.same {G : Gh} {st : List LObj} {w w' : World} (h : WR G st w) (ho : ∀ o b, Owns G st o b → w'.heap[b]? = w.heap[b]?) (hF : ∀ b off v, G.F b off = some v → w'.heap[b]? = w.heap[b]?) : WR G st w' := by
  refine ⟨?_, h.dom, ?_, ?_, ?_, ?_, h.uniq, h.ownF, h.kind⟩
  · intro b o v hv
    have := h.fr b o v hv
    unfold World.cell? at this ⊢
    simp only [hF b o v hv]
    exact this
  · intro o es hs l hl
    obtain ⟨blk, size, n, e, arr, ty, hbb, r⟩ := h.row o es hs l hl
    subst e
    exact ⟨blk, size, n, rfl, arr, ty, (ho o blk (by unfold Owns; rw [hs]; exact ⟨size, n, hl⟩)).trans hbb, r⟩
  · intro o kv hs l hl
    obtain ⟨blk, e, es, c, hbb, r⟩ := h.map o kv hs l hl
    subst e
    exact ⟨blk, rfl, es, c, (ho o blk (by unfold Owns; rw [hs]; exact hl)).trans hbb, r⟩
  · intro o s p hs l hl
    obtain ⟨blk, e, hbb⟩ := h.iter o s p hs l hl
    subst e
    exact ⟨blk, rfl, (ho o blk (by unfold Owns; rw [hs]; exact hl)).trans hbb⟩
  · intro o n hw hs
    obtain ⟨h1, h2⟩ := h.spare o n hw hs
    refine ⟨h1, fun s e => ?_⟩
    obtain ⟨a, ⟨arr, ty, hbb, r⟩, c⟩ := h2 s e
    exact ⟨a, ⟨arr, ty, (ho o s.blk (by unfold Owns; rw [hs]; exact ⟨s, e, rfl⟩)).trans hbb, r⟩, c⟩
def sApp (lp : LProg) (n K : Nat) (args : List LV) (st : List LObj) : Option (LV × List LObj) := match args with
  | [.tight [], .fn (.func g) [] cap] => if g = K then (match runF lp n K (.und :: cap) st with
      | some (.tup [], st') => some (.tight [], st')
      | _ => none) else none
  | _ => none
def AppC (P : Program) (f K : Nat) : Prop := ∀ (x : Option Addr) (y z : Nat) (lb : Array Value) (w : World) (Post : Value → World → Prop),
    (∀ l W, Below w.heap.size w W → w.heap.size < W.heap.size → Calls P K (#[.func (.yield l) #[] #[]] ++ lb) W fun e W' => ∃ v, e = .returned v ∧ W.heap.size ≤ W'.heap.size ∧
      (∀ b, b < W.heap.size → w.heap.size ≤ b → W'.heap[b]? = W.heap[b]?) ∧ ∀ W2 : World, W2.os = W'.os → W2.tape = W'.tape → W2.output = W'.output → W2.heap.size = W'.heap.size → (∀ b, (b < w.heap.size ∨ W.heap.size ≤ b) → W2.heap[b]? = W'.heap[b]?) → Post (.slice x y z) W2) →
    Calls P f #[.slice x y z, .func (.func K) #[] lb] w fun e w' => ∃ v, e = .returned v ∧ Post v w'
theorem sApp_ok {P : Program} {lp : LProg} {f n K : Nat} (hp : plainFn P f = true) (hpr : PR P lp) (h : AppC P f K) : SummOK P f (sApp lp n K) := by
  refine ⟨hp, fun args st res st' hg G w us hw ha => ?_⟩
  unfold sApp at hg
  split at hg
  case h_2 => cases hg
  rename_i g cap
  split at hg
  case isFalse => cases hg
  rename_i hgK
  subst hgK
  split at hg
  case h_2 => cases hg
  rename_i s2 hrun
  cases hg
  have h1 := ha.1
  simp only [List.length_cons, List.length_nil] at h1
  obtain ⟨l⟩ := us
  match l, h1 with
  | [a, b], _ =>
    have ea := ha.2 0 _ rfl
    have eb := ha.2 1 _ rfl
    replace ea : VL G (.tight []) a := ea
    replace eb : VL G (.fn (.func g) [] cap) b := eb
    cases eb with
    | fn f' vf vc s1 s2' hf hcap =>
      obtain rfl : vf = #[] := by simpa using s1
      cases ea with
      | tight hvp =>
        rename_i x hsize2
        refine (h x _ _ vc w (fun v W2 => ∃ G', WR G' st' W2 ∧ VL G' (.tight []) v ∧ Ext0 G st w G' st' W2) ?_).mono ?_
        · intro l W hbel hlt
          obtain ⟨w1, x1⟩ := hw.below hbel
          refine ((runF_sound hpr n g (.und :: cap) st (.tup []) st' hrun).2 G W _ w1 ⟨by simp [s2']; omega, ?_⟩).mono ?_
          · intro i y hy
            cases i with
            | zero => cases hy; exact .und _
            | succ i =>
              have := hcap i y (by simpa using hy)
              have e : (#[Value.func (.yield l) #[] #[]] ++ vc).getD (i + 1) undef = vc.getD i undef := by
                simp only [Array.getD_eq_getD_getElem?]
                rw [Array.getElem?_append_right (by simp)]; simp
              rw [e]; exact this
          · rintro e W' ⟨u, G', rfl, wr, vl, ex⟩
            have hnb : ∀ b, w.heap.size ≤ b → ∀ o, ¬ Owns G st o b := fun b hb o ho => by have := hw.owns_lt ho; omega
            refine ⟨u, rfl, ex.hsz, fun b hb hwb => ex.unch b hb (hnb b hwb), ?_⟩
            intro W2 e1 e2 e3 e4 e5
            have hcase : ∀ b, (b < w.heap.size ∨ W.heap.size ≤ b) ∨ (w.heap.size ≤ b ∧ b < W.heap.size) := fun b => by omega
            refine ⟨G', wr.same ?_ ?_, (VL.tight hvp).mono ex.le, ?_⟩
            · intro o b ho
              rcases hcase b with hb | ⟨hb1, hb2⟩
              · exact e5 b hb
              · obtain ⟨o', ho'⟩ := ex.own o b ho hb2
                exact absurd ho' (hnb b hb1 o')
            · intro b off v hv
              rcases hcase b with hb | ⟨hb1, hb2⟩
              · exact e5 b hb
              · have := hw.fr_lt (ex.newF b off v hv hb2 (hnb b hb1)); omega
            · refine ⟨ex.le, e1.trans (ex.os.trans hbel.os), e2.trans (ex.tape.trans hbel.tape), e3.trans (ex.output.trans hbel.output), by have := ex.hsz; omega, ?_, ?_, ?_⟩
              · intro b hb hno
                exact (e5 b (.inl hb)).trans ((ex.unch b (by omega) hno).trans (hbel.block b hb))
              · intro o b ho hb
                exact ex.own o b ho (by omega)
              · intro b off v hv hb hno
                exact ex.newF b off v hv (by omega) hno
        · rintro e w' ⟨v, rfl, G', a1, a2, a3⟩
          exact ⟨v, G', rfl, a1, a2, a3⟩
end Go.LS
set_option linter.unusedVariables false
set_option linter.unusedSimpArgs false
namespace Go.LS
abbrev CallLe (c c' : CallF) : Prop := ∀ f a s r, c f a s = some r → c' f a s = some r ∧ c'.weak f = c.weak f
theorem callIso_mono {c c' : CallF} (h : CallLe c c') {f : FuncId} {args : List LV} {st : List LObj} {r : LV × List LObj} (hr : callIso c f args st = some r) : callIso c' f args st = some r := by
  unfold callIso at hr ⊢
  simp only at hr ⊢
  split at hr
  · rename_i hcl
    split at hr
    · rename_i v st' hc
      obtain ⟨h1, h2⟩ := h _ _ _ _ hc
      rw [h2, if_pos hcl, h1]
      exact hr
    · cases hr
  · cases hr
theorem callFz_mono {c c' : CallF} (h : CallLe c c') : CallLe (callFz c) (callFz c') := by
  intro f a s r hr
  unfold callFz at hr ⊢
  simp only at hr ⊢
  split at hr
  · rename_i v st' hc
    obtain ⟨h1, h2⟩ := h _ _ _ _ hc
    rw [h1]
    exact ⟨hr, h2⟩
  · cases hr
theorem opStep_mono {c c' : CallF} (h : CallLe c c') {t : List LV} {st : List LObj} {op : LOp} {r : LV × List LObj} (hr : opStep c t st op = some r) : opStep c' t st op = some r := by
  cases op
  case call f args => simp only [opStep] at hr ⊢; exact callIso_mono h hr
  case callz f args => simp only [opStep] at hr ⊢; exact callIso_mono (callFz_mono h) hr
  case callv f args =>
    simp only [opStep] at hr ⊢
    split at hr
    · exact callIso_mono h hr
    · cases hr
  all_goals exact hr
theorem runOp_mono {c c' : CallF} (h : CallLe c c') {t : List LV} {st : List LObj} {o : LOper} {r : LV × List LObj} (hr : runOp c t st o = some r) : runOp c' t st o = some r := by
  unfold runOp at hr ⊢
  split at hr
  · exact opStep_mono h hr
  · exact hr
  · cases hr
theorem runOps_mono {c c' : CallF} (h : CallLe c c') : ∀ {l : List LOper} {t : List LV} {st : List LObj} {r : List LV × List LObj}, runOps c l t st = some r → runOps c' l t st = some r
  | [], t, st, r, hr => hr
  | o :: l, t, st, r, hr => by
    simp only [runOps] at hr ⊢
    split at hr
    · rename_i v st' hs
      rw [runOp_mono h hs]
      exact runOps_mono h hr
    · cases hr
theorem heldOk_mono {c c' : CallF} (h : CallLe c c') {st : List LObj} {held : List (DOp × List LV × LV)} (hr : heldOk c st held = true) : heldOk c' st held = true := by
  unfold heldOk at hr ⊢
  rw [List.all_eq_true] at hr ⊢
  intro x hx
  have := hr x hx
  split at this
  · rename_i v s hs
    rw [runOp_mono h hs]
    exact this
  · cases this
theorem runDrawn_mono {c c' : CallF} (h : CallLe c c') : ∀ {l : List DOp} {held : List (DOp × List LV × LV)} {t : List LV} {st : List LObj} {r : List LV × List LObj}, runDrawn c l held t st = some r → runDrawn c' l held t st = some r
  | [], held, t, st, r, hr => hr
  | d :: l, held, t, st, r, hr => by
    simp only [runDrawn] at hr ⊢
    split at hr
    · cases hr
    · rename_i v st' hs
      rw [runOp_mono h hs]
      simp only
      split at hr
      · split at hr
        · rename_i hp; rw [if_pos hp]; exact runDrawn_mono h hr
        · cases hr
      · split at hr
        · rename_i hp
          simp only [Bool.and_eq_true] at hp
          rw [if_pos (by simp [hp.1, heldOk_mono h hp.2])]; exact runDrawn_mono h hr
        · cases hr
      · split at hr
        · rename_i hp
          simp only [Bool.and_eq_true] at hp
          rw [if_pos (by simp only [Bool.and_eq_true]; exact ⟨hp.1, heldOk_mono h hp.2⟩)]; exact runDrawn_mono h hr
        · cases hr
theorem both_same (r : LOut × List LV × List LObj) : both (some r) (some r) = some r := by
  unfold both
  simp [LV.eqbs_refl, eqbSt_refl]
theorem exec_mono {c c' : CallF} (h : CallLe c c') {k : Nat} : ∀ {n m : Nat}, n ≤ m → ∀ {lc : LCode} {t : List LV} {st : List LObj} {r : LOut × List LV × List LObj}, exec c k n lc t st = some r → exec c' k m lc t st = some r
  | 0, m, _, lc, t, st, r, hr => by simp [exec] at hr
  | n + 1, 0, hnm, lc, t, st, r, hr => by omega
  | n + 1, m + 1, hnm, lc, t, st, r, hr => by
    have hle : n ≤ m := by omega
    cases lc with
    | skip => exact hr
    | exit id mask => exact hr
    | ret mask => exact hr
    | fail => simp [exec] at hr
    | region ops =>
      simp only [exec] at hr ⊢
      split at hr
      · rename_i t' st' hs
        rw [runOps_mono h hs]; exact hr
      · cases hr
    | drawn ops =>
      simp only [exec] at hr ⊢
      split at hr
      · rename_i t' st' hs
        rw [runDrawn_mono h hs]; exact hr
      · cases hr
    | seq a b =>
      have go : ∀ {la : LCode} {r}, cont2 (exec c k n la t st) (exec c k n b) = some r → cont2 (exec c' k m la t st) (exec c' k m b) = some r := by
        intro la r hr
        cases ha : exec c k n la t st with
        | none => rw [ha] at hr; cases hr
        | some x =>
          rw [ha] at hr
          rw [exec_mono h hle ha]
          obtain ⟨o, t', st'⟩ := x
          cases o with
          | normal => exact exec_mono h hle hr
          | _ => exact hr
      simp only [exec] at hr ⊢
      exact go hr
    | both x a b d =>
      have go : ∀ {la : LCode} {r}, cont2 (exec c k n la t st) (exec c k n d) = some r → cont2 (exec c' k m la t st) (exec c' k m d) = some r := by
        intro la r hr
        cases ha : exec c k n la t st with
        | none => rw [ha] at hr; cases hr
        | some x =>
          rw [ha] at hr
          rw [exec_mono h hle ha]
          obtain ⟨o, t', st'⟩ := x
          cases o with
          | normal => exact exec_mono h hle hr
          | _ => exact hr
      simp only [exec] at hr ⊢
      split at hr
      · exact go hr
      · exact go hr
      · obtain ⟨e1, e2⟩ := both_eq hr
        rw [go e1, go e2]
        exact both_same r
      · cases hr
    | cond x a b =>
      simp only [exec] at hr ⊢
      split at hr
      · exact exec_mono h hle hr
      · exact exec_mono h hle hr
      · obtain ⟨e1, e2⟩ := both_eq hr
        rw [exec_mono h hle e1, exec_mono h hle e2]
        exact both_same r
      · cases hr
    | block id mask a =>
      simp only [exec] at hr ⊢
      cases ha : exec c k n a t st with
      | none => rw [ha] at hr; cases hr
      | some x =>
        rw [ha] at hr
        rw [exec_mono h hle ha]
        exact hr
    | loop mask a =>
      simp only [exec] at hr ⊢
      split at hr
      · rename_i t0 st0 hg
        cases ha : exec c k n a t0 st0 with
        | none => rw [ha] at hr; cases hr
        | some x =>
          rw [ha] at hr
          rw [exec_mono h hle ha]
          obtain ⟨o, t', st'⟩ := x
          cases o with
          | normal => exact exec_mono h hle hr
          | _ => exact hr
      · cases hr
theorem runF_mono {lp : LProg} : ∀ {n m : Nat}, n ≤ m → CallLe (runF lp n) (runF lp m)
  | 0, m, _ => fun f a s r h => by simp [runF] at h
  | n + 1, 0, hnm => by omega
  | n + 1, m + 1, hnm => by
    intro f a s r h
    refine ⟨?_, rfl⟩
    simp only [runF] at h ⊢
    split at h
    · exact h
    · split at h
      · cases h
      · rename_i lf hlf
        split at h
        · cases h
        · rename_i out t' st' hne hex
          rw [exec_mono (runF_mono (show n ≤ m by omega)) (show n ≤ m by omega) hex]
          simp only
          cases out with
          | exit i => exact (hne i rfl).elim
          | _ => exact h
        · cases h
def Runs (lp : LProg) (f : FuncId) (args : List LV) (st : List LObj) (r : LV × List LObj) : Prop := ∃ n, runF lp n f args st = some r
def Exec (lp : LProg) (k : Nat) (c : LCode) (t : List LV) (st : List LObj) (r : LOut × List LV × List LObj) : Prop := ∃ n, exec (runF lp n) k n c t st = some r
theorem Exec.at {lp : LProg} {k : Nat} {c : LCode} {t : List LV} {st : List LObj} {r : LOut × List LV × List LObj} (h : Exec lp k c t st r) : ∃ n, ∀ m, n ≤ m → exec (runF lp m) k m c t st = some r :=
  let ⟨n, hn⟩ := h
  ⟨n, fun m hm => exec_mono (runF_mono hm) hm hn⟩
theorem Runs.at {lp : LProg} {f : FuncId} {args : List LV} {st : List LObj} {r : LV × List LObj} (h : Runs lp f args st r) : ∃ n, ∀ m, n ≤ m → runF lp m f args st = some r :=
  let ⟨n, hn⟩ := h
  ⟨n, fun m hm => (runF_mono hm _ _ _ _ hn).1⟩
def RunsZ (lp : LProg) (f : FuncId) (args : List LV) (st : List LObj) (r : LV × List LObj) : Prop := ∃ n, callFz (runF lp n) f args st = some r
theorem RunsZ.at {lp : LProg} {f : FuncId} {args : List LV} {st : List LObj} {r : LV × List LObj} (h : RunsZ lp f args st r) : ∃ n, ∀ m, n ≤ m → callFz (runF lp m) f args st = some r := by
  obtain ⟨n, hn⟩ := h
  exact ⟨n, fun m hm => (callFz_mono (runF_mono hm) _ _ _ _ hn).1⟩
theorem gc_pure {st : List LObj} {vs : List LV} (h : vs.flatMap LV.refs = []) : gc 0 vs st = some (vs.map (LV.ren fun q => ([] : List Nat).idxOf q), []) := by
  unfold gc gcIds
  simp only [List.take_zero, List.flatMap_nil, h, List.append_nil, List.range_zero]
  have e : reach st 100000 [] [] = [] := rfl
  rw [e]
  exact if_pos rfl
theorem Runs.z {lp : LProg} {f : FuncId} {args : List LV} {r v : LV} {st st' : List LObj} (h : Runs lp f args [] (r, st)) (hf : frzV st r = (v, st')) (hv : v.refs = []) (hr : v.ren (fun q => ([] : List Nat).idxOf q) = v) : RunsZ lp f args [] (v, []) := by
  obtain ⟨n, hn⟩ := h
  refine ⟨n, ?_⟩
  unfold callFz
  simp only [hn, hf, List.length_nil]
  rw [gc_pure (by simp [hv])]
  simp only [List.map_cons, List.map_nil, hr]
end Go.LS

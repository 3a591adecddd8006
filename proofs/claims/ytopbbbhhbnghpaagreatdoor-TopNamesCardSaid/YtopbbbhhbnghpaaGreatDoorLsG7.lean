/- A small semantics of loaded Go code that the kernel can run, part 7. -/
import Derived.Test.YtopbbbhhbnghpaaGreatDoorLsG6
import Derived.Test.YtopbbbhhbnghpaaGreatDoorLsG5
import Derived.SizedLaws
import Derived.OpenShut
import Derived.Carry
import Derived.ChangeShapes
set_option linter.unusedVariables false
namespace Go.LS
section
variable {call callF : CallF} {k D n : Nat}
abbrev Tells (D n : Nat) (y : Option (LOut × List LV × List LObj)) (o : LOut) (T' : TT) (st' : List LObj) : Prop := ∃ ts', y = some (o, ts', st') ∧ Rep D n T' ts'
theorem tx_ops_ok {x : Option (TT × List LObj)} {o : LOut} {T' : TT} {st' : List LObj} (h : tx_ops x = some (o, T', st')) : x = some (T', st') ∧ o = .normal := by
  cases x with
  | none => cases h
  | some p =>
    obtain ⟨a, b⟩ := p
    have h : some (LOut.normal, a, b) = some (o, T', st') := h
    cases h
    exact ⟨rfl, rfl⟩
theorem tx_cont_ok {x : TX} {y : Option (LOut × List LV × List LObj)} {go : TT → List LObj → TX} {f : List LV → List LObj → Option (LOut × List LV × List LObj)} {o : LOut} {T' : TT} {st' : List LObj}
    (hx : ∀ {o T' st'}, x = some (o, T', st') → Tells D n y o T' st') (hg : ∀ {T ts st}, Rep D n T ts → ∀ {o T' st'}, go T st = some (o, T', st') → Tells D n (f ts st) o T' st')
    (h : tx_cont go x = some (o, T', st')) : Tells D n (cont2 y f) o T' st' := by
  cases x with
  | none => cases h
  | some p =>
    obtain ⟨o1, T1, s1⟩ := p
    obtain ⟨ts1, e1, r1⟩ := hx rfl
    subst e1
    cases o1 with
    | normal => exact hg r1 h
    | exit i =>
      have h : some (LOut.exit i, T1, s1) = some (o, T', st') := h
      cases h
      exact ⟨ts1, rfl, r1⟩
    | ret =>
      have h : some (LOut.ret, T1, s1) = some (o, T', st') := h
      cases h
      exact ⟨ts1, rfl, r1⟩
theorem bothT_ok {x y : TX} {a b : Option (LOut × List LV × List LObj)} {o : LOut} {T' : TT} {st' : List LObj}
    (hx : ∀ {o T' st'}, x = some (o, T', st') → Tells D n a o T' st') (hy : ∀ {o T' st'}, y = some (o, T', st') → Tells D n b o T' st') (h : bothT x y = some (o, T', st')) : Tells D n (both a b) o T' st' := by
  unfold bothT at h
  split at h
  · rename_i o1 t1 s1 o2 t2 s2
    split at h
    · rename_i hc
      obtain ⟨c1, c2, c3⟩ := hc
      cases h
      obtain ⟨ts1, e1, r1⟩ := hx rfl
      obtain ⟨ts2, e2, r2⟩ := hy rfl
      have et : ts1 = ts2 := by rw [← r1.list, ← r2.list, LV.eq_of_eqbs _ _ c2]
      have es := eq_of_eqbSt c3
      subst et; subst es; subst c1
      rw [e1, e2]
      exact ⟨ts1, both_same _, r1⟩
    · cases h
  · cases h
theorem tx_sel_ok {a b : Unit → TX} {v : LV} {x y : Option (LOut × List LV × List LObj)} {o : LOut} {T' : TT} {st' : List LObj}
    (ha : ∀ {o T' st'}, a () = some (o, T', st') → Tells D n x o T' st') (hb : ∀ {o T' st'}, b () = some (o, T', st') → Tells D n y o T' st') (h : tx_sel a b v = some (o, T', st')) :
    Tells D n (match (generalizing := false) v with
      | .p (.bool true) => x
      | .p (.bool false) => y
      | .anyb => both x y
      | _ => none) o T' st' := by
  unfold tx_sel at h
  split at h
  · exact ha h
  · exact hb h
  · exact bothT_ok ha hb h
  · cases h
theorem execT_ok (hc : CallLe call callF) : ∀ (N : Nat) (c : LCode) {T : TT} {ts : List LV} {st : List LObj} {o : LOut} {T' : TT} {st' : List LObj}, Rep D n T ts →
    execT call k D (2 ^ D) (Nat.div (2 ^ D) 2) n N c T st = some (o, T', st') → Tells D n (exec callF k N c ts st) o T' st'
  | 0, c, T, ts, st, o, T', st', hr, h => nomatch h
  | N + 1, c, T, ts, st, o, T', st', hr, h => by
    have ih := @execT_ok hc N
    have go : ∀ (c : LCode) {T ts st}, Rep D n T ts → ∀ {o T' st'}, execT call k D (2 ^ D) (Nat.div (2 ^ D) 2) n N c T st = some (o, T', st') → Tells D n (exec callF k N c ts st) o T' st' := fun c _ _ _ hr _ _ _ h => ih c hr h
    have hk : ∀ mask, Rep D n (tx_kill D mask T) (kill mask ts) := fun mask => hr.kill mask
    have hev : ∀ x, evT (2 ^ D) (Nat.div (2 ^ D) 2) T x = x.ev ts := fun x => by rw [hr.ev]
    cases c with
    | skip =>
      have h : some (LOut.normal, T, st) = some (o, T', st') := h
      cases h
      exact ⟨ts, rfl, hr⟩
    | region ops =>
      have h : tx_ops (runOpsT call (2 ^ D) (Nat.div (2 ^ D) 2) n ops T st) = some (o, T', st') := h
      obtain ⟨h1, rfl⟩ := tx_ops_ok h
      obtain ⟨ts', a, b⟩ := runOpsT_ok hc ops hr h1
      exact ⟨ts', by rw [exec, a], b⟩
    | drawn ops =>
      have h : tx_ops (runDrawnT call (2 ^ D) (Nat.div (2 ^ D) 2) n ops [] T st) = some (o, T', st') := h
      obtain ⟨h1, rfl⟩ := tx_ops_ok h
      obtain ⟨ts', a, b⟩ := runDrawnT_ok hc ops .nil hr h1
      exact ⟨ts', by rw [exec, a], b⟩
    | seq a b =>
      have h : tx_cont (execT call k D (2 ^ D) (Nat.div (2 ^ D) 2) n N b) (execT call k D (2 ^ D) (Nat.div (2 ^ D) 2) n N a T st) = some (o, T', st') := h
      rw [exec]
      exact tx_cont_ok (go a hr) (go b) h
    | cond x a b =>
      have h : tx_sel (fun _ => execT call k D (2 ^ D) (Nat.div (2 ^ D) 2) n N a T st) (fun _ => execT call k D (2 ^ D) (Nat.div (2 ^ D) 2) n N b T st) (evT (2 ^ D) (Nat.div (2 ^ D) 2) T x) = some (o, T', st') := h
      rw [hev] at h
      rw [exec]
      exact tx_sel_ok (go a hr) (go b hr) h
    | both x a b d =>
      have h : tx_sel (fun _ => tx_cont (execT call k D (2 ^ D) (Nat.div (2 ^ D) 2) n N d) (execT call k D (2 ^ D) (Nat.div (2 ^ D) 2) n N a T st)) (fun _ => tx_cont (execT call k D (2 ^ D) (Nat.div (2 ^ D) 2) n N d) (execT call k D (2 ^ D) (Nat.div (2 ^ D) 2) n N b T st)) (evT (2 ^ D) (Nat.div (2 ^ D) 2) T x) = some (o, T', st') := h
      rw [hev] at h
      rw [exec]
      exact tx_sel_ok (fun h => tx_cont_ok (go := execT call k D (2 ^ D) (Nat.div (2 ^ D) 2) n N d) (go a hr) (go d) h) (fun h => tx_cont_ok (go := execT call k D (2 ^ D) (Nat.div (2 ^ D) 2) n N d) (go b hr) (go d) h) h
    | block id mask c =>
      have h : tx_blk D id mask (execT call k D (2 ^ D) (Nat.div (2 ^ D) 2) n N c T st) = some (o, T', st') := h
      rw [exec]
      cases hx : execT call k D (2 ^ D) (Nat.div (2 ^ D) 2) n N c T st with
      | none => rw [hx] at h; cases h
      | some p =>
        obtain ⟨o1, T1, s1⟩ := p
        rw [hx] at h
        obtain ⟨ts1, e1, r1⟩ := go c hr hx
        rw [e1]
        cases o1 with
        | normal =>
          have h : some (LOut.normal, tx_kill D mask T1, s1) = some (o, T', st') := h
          cases h
          exact ⟨_, rfl, r1.kill mask⟩
        | ret =>
          have h : some (LOut.ret, T1, s1) = some (o, T', st') := h
          cases h
          exact ⟨_, rfl, r1⟩
        | exit i =>
          have h : cond (Nat.beq i id) (some (LOut.normal, tx_kill D mask T1, s1)) (some (LOut.exit i, T1, s1)) = some (o, T', st') := h
          by_cases hi : i = id
          · have hb : Nat.beq i id = true := by rw [hi]; exact Nat.beq_refl id
            rw [hb, cond_true] at h
            cases h
            exact ⟨_, by simp only [hi, if_true], r1.kill mask⟩
          · have hb : Nat.beq i id = false := by cases hq : Nat.beq i id with | false => rfl | true => exact absurd (Nat.eq_of_beq_eq_true hq) hi
            rw [hb, cond_false] at h
            cases h
            exact ⟨_, by simp only [if_neg hi], r1⟩
    | loop mask c =>
      have h : tx_lp0 D n k (execT call k D (2 ^ D) (Nat.div (2 ^ D) 2) n N) (.loop mask c) c (tx_kill D mask T) st = some (o, T', st') := h
      rw [exec]
      have rest : ∀ {T1 ts1 s1}, Rep D n T1 ts1 → tx_lp2 (execT call k D (2 ^ D) (Nat.div (2 ^ D) 2) n N) (.loop mask c) (execT call k D (2 ^ D) (Nat.div (2 ^ D) 2) n N c T1 s1) = some (o, T', st') →
          Tells D n (match exec callF k N c ts1 s1 with
            | some (.normal, t'', st'') => exec callF k N (.loop mask c) t'' st''
            | r => r) o T' st' := by
        intro T1 ts1 s1 r1 h
        cases hx : execT call k D (2 ^ D) (Nat.div (2 ^ D) 2) n N c T1 s1 with
        | none => rw [hx] at h; cases h
        | some p =>
          obtain ⟨o2, T2, s2⟩ := p
          rw [hx] at h
          obtain ⟨ts2, e2, r2⟩ := go c r1 hx
          rw [e2]
          cases o2 with
          | normal => exact go (.loop mask c) r2 h
          | ret =>
            have h : some (LOut.ret, T2, s2) = some (o, T', st') := h
            cases h
            exact ⟨_, rfl, r2⟩
          | exit i =>
            have h : some (LOut.exit i, T2, s2) = some (o, T', st') := h
            cases h
            exact ⟨_, rfl, r2⟩
      have slow : tx_lp1 D (execT call k D (2 ^ D) (Nat.div (2 ^ D) 2) n N) (.loop mask c) c (gc k ((tx_kill D mask T).toL.take n) st) = some (o, T', st') →
          Tells D n (match gc k (kill mask ts) st with
            | some (t', st') => match exec callF k N c t' st' with
              | some (.normal, t'', st'') => exec callF k N (.loop mask c) t'' st''
              | r => r
            | none => none) o T' st' := by
        intro h
        rw [(hk mask).list] at h
        cases hg : gc k (kill mask ts) st with
        | none => rw [hg] at h; cases h
        | some p =>
          obtain ⟨l, s1⟩ := p
          rw [hg] at h
          refine rest (Rep.of (n := n) ?_ hr.le) h
          have : (kill mask ts).length = n := (hk mask).len
          unfold gc at hg
          simp only at hg
          split at hg
          · simp only [Option.some.injEq, Prod.mk.injEq] at hg
            rw [← hg.1, List.length_map]; exact this
          · cases hg
      have hz : (tx_kill D mask T).toL.flatMap LV.refs = (kill mask ts).flatMap LV.refs := by
        rw [(hk mask).eq, List.flatMap_append]
        have : (List.replicate (2 ^ D - n) LV.und).flatMap LV.refs = [] := by
          rw [List.flatMap_eq_nil_iff]
          intro x hx
          rw [List.eq_of_mem_replicate hx]; rfl
        rw [this, List.append_nil]
      have slow2 : tx_lpR D n k (execT call k D (2 ^ D) (Nat.div (2 ^ D) 2) n N) (.loop mask c) c (tx_kill D mask T) st = some (o, T', st') →
          Tells D n (match gc k (kill mask ts) st with
            | some (t', st') => match exec callF k N c t' st' with
              | some (.normal, t'', st'') => exec callF k N (.loop mask c) t'' st''
              | r => r
            | none => none) o T' st' := by
        intro h
        unfold tx_lpR at h
        cases hq : reachS st st.length 100000 (refsKQ k st (refsTQ (tx_kill D mask T) [])) (List.range k) with
        | none => rw [hq] at h; exact slow h
        | some ids =>
          rw [hq] at h
          have h : cond (Nat.ble k st.length) (tx_lp2 (execT call k D (2 ^ D) (Nat.div (2 ^ D) 2) n N) (.loop mask c) (execT call k D (2 ^ D) (Nat.div (2 ^ D) 2) n N c (mapTQ (renQ fun q => idxQ q ids 0) (tx_kill D mask T)) (subQ st ids))) (tx_lp1 D (execT call k D (2 ^ D) (Nat.div (2 ^ D) 2) n N) (.loop mask c) c (gc k ((tx_kill D mask T).toL.take n) st)) = some (o, T', st') := h
          cases hb : Nat.ble k st.length with
          | false => rw [hb] at h; exact slow h
          | true =>
            rw [hb, cond_true, subQ_eq] at h
            rw [refsKQ_eq, refsTQ_eq, List.append_nil, hz] at hq
            rw [gc_slow (Nat.le_of_ble_eq_true hb) hq]
            have h1 : (renQ fun q => idxQ q ids 0) = LV.ren fun q => ids.idxOf q := by rw [idxF]; exact funext (renQ_eq _)
            rw [h1] at h
            exact rest ((hk mask).map rfl) h
      unfold tx_lp0 at h
      cases hq : reachQ st 100000 (refsKQ k st (refsTQ (tx_kill D mask T) [])) k with
      | none => rw [hq] at h; exact slow2 h
      | some m =>
        rw [hq] at h
        have h : cond (Nat.ble m st.length) (tx_lp2 (execT call k D (2 ^ D) (Nat.div (2 ^ D) 2) n N) (.loop mask c) (execT call k D (2 ^ D) (Nat.div (2 ^ D) 2) n N c (tx_kill D mask T) (takeQ m st.length st))) (tx_lpR D n k (execT call k D (2 ^ D) (Nat.div (2 ^ D) 2) n N) (.loop mask c) c (tx_kill D mask T) st) = some (o, T', st') := h
        cases hb : Nat.ble m st.length with
        | false => rw [hb] at h; exact slow2 h
        | true =>
          rw [hb, cond_true, takeQ_eq] at h
          rw [refsKQ_eq, refsTQ_eq, List.append_nil] at hq
          rw [hz] at hq
          rw [gc_fast hq (Nat.le_of_ble_eq_true hb)]
          exact rest (hk mask) h
    | exit id mask =>
      have h : some (LOut.exit id, tx_kill D mask T, st) = some (o, T', st') := h
      cases h
      exact ⟨_, rfl, hk mask⟩
    | ret mask =>
      have h : some (LOut.ret, tx_kill D mask T, st) = some (o, T', st') := h
      cases h
      exact ⟨_, rfl, hk mask⟩
    | fail => exact nomatch h
theorem evResT_eq {T : TT} {ts : List LV} (hr : Rep D n T ts) (st : List LObj) : ∀ rs, evResT (2 ^ D) (Nat.div (2 ^ D) 2) T st rs = evRes ts st rs
  | [] => rfl
  | .tmp i :: r => by
    have e := evResT_eq hr st r
    show resCons (evT (2 ^ D) (Nat.div (2 ^ D) 2) T (.tmp i)) (evResT (2 ^ D) (Nat.div (2 ^ D) 2) T st r) = _
    rw [e, hr.ev, evRes]
    cases evRes ts st r <;> rfl
  | .cell i agg m :: r => by
    have e := evResT_eq hr st r
    show resCell agg (evResT (2 ^ D) (Nat.div (2 ^ D) 2) T st r) ((evT (2 ^ D) (Nat.div (2 ^ D) 2) T (.tmp i)).ldAt st m) = _
    rw [e, hr.ev, evRes]
    show resCell agg (evRes ts st r) ((ts.getD i .und).ldAt st m) = _
    cases (ts.getD i .und).ldAt st m with
    | none => rfl
    | some cs => rfl
end
theorem wkLenT (b : Bool) (l : List LV) : (wk b l).length = l.length := by cases b <;> simp [wk]
theorem y_call_ok {lp : LProg} {c c' : CallF} {N M : Nat} (hc : CallLe c c') (hle : N ≤ M) {f : FuncId} {args : List LV} {st : List LObj} {o : Option (List LV → List LObj → Option (LV × List LObj))} {r : LV × List LObj} (h : y_call lp c N f args st o = some r) : f_call lp c' M f args st o = some r := by
  cases o with
  | some g => exact h
  | none =>
    have h : y_fn lp c N f args st (lp.fns f) = some r := h
    show f_fn lp c' M f args st (lp.fns f) = some r
    cases hf : lp.fns f with
    | none => rw [hf] at h; cases h
    | some lf =>
      rw [hf] at h
      have h : cond (Nat.ble args.length lf.ntmps && Nat.ble lf.ntmps (2 ^ dep lf.ntmps)) (y_out lp f st.length (2 ^ dep lf.ntmps) (Nat.div (2 ^ dep lf.ntmps) 2) lf.results (execT c st.length (dep lf.ntmps) (2 ^ dep lf.ntmps) (Nat.div (2 ^ dep lf.ntmps) 2) lf.ntmps N lf.body (ofL (dep lf.ntmps) (wk (lp.weak f) args ++ List.replicate (lf.ntmps - args.length) .und)) st)) none = some r := h
      obtain ⟨hb, h⟩ := cond_some h
      rw [Bool.and_eq_true] at hb
      have h1 : args.length ≤ lf.ntmps := Nat.le_of_ble_eq_true hb.1
      have h2 : lf.ntmps ≤ 2 ^ dep lf.ntmps := Nat.le_of_ble_eq_true hb.2
      have hr : Rep (dep lf.ntmps) lf.ntmps (ofL (dep lf.ntmps) (wk (lp.weak f) args ++ List.replicate (lf.ntmps - args.length) .und)) (wk (lp.weak f) args ++ List.replicate (lf.ntmps - args.length) .und) :=
        Rep.of (by rw [List.length_append, wkLenT, List.length_replicate]; omega) h2
      show f_out lp f st.length lf.results (execK c' st.length M lf.body (wk (lp.weak f) args ++ List.replicate (lf.ntmps - args.length) .und) st) = some r
      rw [execK_eq]
      cases hx : execT c st.length (dep lf.ntmps) (2 ^ dep lf.ntmps) (Nat.div (2 ^ dep lf.ntmps) 2) lf.ntmps N lf.body (ofL (dep lf.ntmps) (wk (lp.weak f) args ++ List.replicate (lf.ntmps - args.length) .und)) st with
      | none => rw [hx] at h; cases h
      | some p =>
        obtain ⟨o, T', st'⟩ := p
        rw [hx] at h
        obtain ⟨ts', e, r'⟩ := execT_ok hc N lf.body hr hx
        rw [exec_mono (fun f a s r h => ⟨h, rfl⟩) hle e]
        have key : ∀ vs, y_res lp f st.length st' vs = f_res lp f st.length st' vs := fun vs => by
          cases vs with
          | none => rfl
          | some vs =>
            show y_gc (gcR st.length (frz (lp.wres f) st' vs).1 (frz (lp.wres f) st' vs).2) = f_gc (gc st.length (frz (lp.wres f) st' vs).1 (frz (lp.wres f) st' vs).2)
            rw [gcR_eq]
            cases gc st.length (frz (lp.wres f) st' vs).1 (frz (lp.wres f) st' vs).2 <;> rfl
        cases o with
        | exit i => exact nomatch h
        | normal =>
          have h : y_res lp f st.length st' (evResT (2 ^ dep lf.ntmps) (Nat.div (2 ^ dep lf.ntmps) 2) T' st' lf.results) = some r := h
          rw [evResT_eq r', key] at h
          exact h
        | ret =>
          have h : y_res lp f st.length st' (evResT (2 ^ dep lf.ntmps) (Nat.div (2 ^ dep lf.ntmps) 2) T' st' lf.results) = some r := h
          rw [evResT_eq r', key] at h
          exact h
noncomputable def runMT (lp : LProg) (tab : Memo) (n : Nat) : CallF := Nat.rec (motive := fun _ => CallF) ⟨fun _ _ _ => none, lp.weak⟩ (fun n ih => ⟨fun f args st => m_or (y_call lp ih n f args st (lp.summ f)) (m_look f args st tab), lp.weak⟩) n
theorem runMT_le {lp : LProg} {tab : Memo} {M : Nat} (hM : ∀ f args st r, m_look f args st tab = some r → runF lp M f args st = some r) : ∀ n, CallLe (runMT lp tab n) (runF lp (n + M))
  | 0 => fun f a s r h => nomatch h
  | n + 1 => fun f a s r h => by
    refine ⟨?_, by rw [runF_weak]; rfl⟩
    have h : m_or (y_call lp (runMT lp tab n) n f a s (lp.summ f)) (m_look f a s tab) = some r := h
    cases hk : m_look f a s tab with
    | some q =>
      rw [hk] at h
      have e : some q = some r := h
      cases e
      exact (runF_mono (Nat.le_add_left M (n + 1)) _ _ _ _ (hM f a s _ hk)).1
    | none =>
      rw [hk] at h
      have h : y_call lp (runMT lp tab n) n f a s (lp.summ f) = some r := h
      have e : n + 1 + M = (n + M) + 1 := by omega
      rw [e, ← runF_call]
      exact y_call_ok (runMT_le hM n) (Nat.le_add_right n M) h
theorem runsMT {lp : LProg} {tab : Memo} (ht : TabOk lp tab) (n : Nat) {f : FuncId} {args : List LV} {st : List LObj} {r : LV × List LObj} (h : runMT lp tab n f args st = some r) : Runs lp f args st r := by
  obtain ⟨M, hM⟩ := ht
  exact ⟨n + M, (runMT_le hM n f args st r h).1⟩
theorem runsMTE {lp : LProg} {tab : Memo} (ht : TabOk lp tab) (n : Nat) {f : FuncId} {e : MEnt} (h : runMT lp tab n f e.1 e.2.1 = some e.2.2) : RunsE lp f e := runsMT ht n h
end Go.LS
set_option linter.unusedVariables false
set_option linter.unusedSimpArgs false
namespace Go.LS
inductive Cty where
  | bool
  | int (k : IntKind)
  | str
  | sl (ts : List Cty) (bytes : Nat)
  | pr (Q : List PV → Prop) (bytes : Nat)
mutual
def okPV : Cty → PV → Prop
  | .bool, p => ∃ b, p = .bool b
  | .int k, p => ∃ n, p = .int k n ∧ k.min ≤ n ∧ n ≤ k.max
  | .str, p => ∃ s, p = .str s ∧ s.length ≤ reachBytes
  | .sl ts bytes, p => ∃ es : List (List PV), p = .sl es ∧ es.length * bytes ≤ reachBytes ∧ es.length ≤ maxLen ∧ ∀ e ∈ es, okPVs ts e
  | .pr Q bytes, p => ∃ es : List (List PV), p = .sl es ∧ es.length * bytes ≤ reachBytes ∧ es.length ≤ maxLen ∧ ∀ e ∈ es, Q e
def okPVs : List Cty → List PV → Prop
  | [], ps => ps = []
  | t :: ts, ps => ∃ p r, ps = p :: r ∧ okPV t p ∧ okPVs ts r
end
def tyFs (P : Program) (rc : TypeId → Option (List Cty)) : Nat → List Field → Option (List Cty)
  | _, [] => some []
  | off, f :: r => match rc f.type with
    | some ts => if f.offset = off ∧ ts.length = P.cellsOf f.type then
        match tyFs P rc (off + ts.length) r with
        | some l => some (ts ++ l)
        | none => none
      else none
    | none => none
def tyT (P : Program) (cut : List TypeId) (Q : TypeId → List PV → Prop) : Nat → TypeId → Option (List Cty)
  | 0, _ => none
  | n + 1, t => match P.underlying t with
    | some .bool => some [.bool]
    | some (.int k) => some [.int k]
    | some .string => some [.str]
    | some (.slice e) => if e ∈ cut then some [.pr (Q e) (P.bytesOf e)] else match tyT P cut Q n e with
      | some ts => if ts.length = P.cellsOf e ∧ 0 < ts.length then some [.sl ts (P.bytesOf e)] else none
      | none => none
    | some (.struct fs) => match tyFs P (tyT P cut Q n) 0 fs.toList with
      | some ts => if ts.length = P.cellsOf t then some ts else none
      | none => none
    | some (.array m e) => match tyT P cut Q n e with
      | some ts => if m * ts.length = P.cellsOf t ∧ ts.length = P.cellsOf e then some (List.replicate m ts).flatten else none
      | none => none
    | _ => none
def RecOk (P : Program) (cut : List TypeId) (N : Nat) : Nat → TypeId → List PV → Prop
  | 0, _, _ => False
  | k + 1, t, ps => ∃ ts, tyT P cut (RecOk P cut N k) N t = some ts ∧ okPVs ts ps
def Sub2 (Q R : TypeId → List PV → Prop) : Prop := ∀ e x, Q e x → R e x
def Cle (ts us : List Cty) : Prop := us.length = ts.length ∧ ∀ ps, okPVs ts ps → okPVs us ps
theorem Cle.append {a b c d : List Cty} (h : Cle a b) (k : Cle c d) : Cle (a ++ c) (b ++ d) := by
  refine ⟨by simp [h.1, k.1], ?_⟩
  have : ∀ (a b : List Cty), b.length = a.length → (∀ ps, okPVs a ps → okPVs b ps) → ∀ ps, okPVs (a ++ c) ps → okPVs (b ++ d) ps := by
    intro a b hl hab ps hp
    obtain ⟨p1, p2, rfl, h1, h2⟩ := split a c ps hp
    exact join b d p1 p2 (hab _ h1) (k.2 _ h2)
  exact this a b h.1 h.2
where
  split : ∀ (a c : List Cty) (ps : List PV), okPVs (a ++ c) ps → ∃ p1 p2, ps = p1 ++ p2 ∧ okPVs a p1 ∧ okPVs c p2
    | [], c, ps, h => ⟨[], ps, rfl, by simp [okPVs], h⟩
    | t :: a, c, ps, h => by
      simp only [List.cons_append, okPVs] at h
      obtain ⟨p, r, rfl, h1, h2⟩ := h
      obtain ⟨p1, p2, rfl, h3, h4⟩ := split a c r h2
      exact ⟨p :: p1, p2, rfl, by simp only [okPVs]; exact ⟨p, p1, rfl, h1, h3⟩, h4⟩
  join : ∀ (a c : List Cty) (p1 p2 : List PV), okPVs a p1 → okPVs c p2 → okPVs (a ++ c) (p1 ++ p2)
    | [], c, p1, p2, h, k => by simp only [okPVs] at h; subst h; exact k
    | t :: a, c, p1, p2, h, k => by
      simp only [okPVs] at h
      obtain ⟨p, r, rfl, h1, h2⟩ := h
      simp only [List.cons_append, okPVs]
      exact ⟨p, r ++ p2, rfl, h1, join a c r p2 h2 k⟩
theorem tyFs_mono {P : Program} {rc rd : TypeId → Option (List Cty)} (h : ∀ t ts, rc t = some ts → ∃ us, rd t = some us ∧ Cle ts us) : ∀ {fs : List Field} {off : Nat} {ts : List Cty}, tyFs P rc off fs = some ts → ∃ us, tyFs P rd off fs = some us ∧ Cle ts us
  | [], off, ts, he => by simp only [tyFs] at he; cases he; exact ⟨[], rfl, rfl, fun _ h => h⟩
  | f :: fs, off, ts, he => by
    simp only [tyFs] at he
    split at he
    · rename_i t1 h1
      split at he
      · rename_i hc
        split at he
        · rename_i l h2
          cases he
          obtain ⟨u1, g1, g2⟩ := h _ _ h1
          obtain ⟨u2, k1, k2⟩ := tyFs_mono h h2
          refine ⟨u1 ++ u2, ?_, g2.append k2⟩
          simp only [tyFs, g1]
          rw [if_pos ⟨hc.1, by rw [g2.1]; exact hc.2⟩, g2.1, k1]
        · cases he
      · cases he
    · cases he
theorem Cle.rep {a b : List Cty} (h : Cle a b) : ∀ m, Cle (List.replicate m a).flatten (List.replicate m b).flatten
  | 0 => ⟨rfl, fun _ h => h⟩
  | m + 1 => by rw [List.replicate_succ, List.replicate_succ, List.flatten_cons, List.flatten_cons]; exact h.append (h.rep m)
theorem tyT_mono {P : Program} {cut : List TypeId} {Q R : TypeId → List PV → Prop} (hQ : Sub2 Q R) : ∀ {n : Nat} {t : TypeId} {ts : List Cty}, tyT P cut Q n t = some ts → ∃ us, tyT P cut R n t = some us ∧ Cle ts us
  | 0, t, ts, h => by simp [tyT] at h
  | n + 1, t, ts, h => by
    simp only [tyT] at h ⊢
    split at h
    · cases h; exact ⟨_, rfl, rfl, fun _ h => h⟩
    · cases h; exact ⟨_, rfl, rfl, fun _ h => h⟩
    · cases h; exact ⟨_, rfl, rfl, fun _ h => h⟩
    · rename_i e hu
      split at h
      · rename_i hc
        cases h
        rw [if_pos hc]
        refine ⟨_, rfl, rfl, fun ps hp => ?_⟩
        simp only [okPVs, okPV] at hp ⊢
        obtain ⟨p, r, rfl, ⟨es, rfl, a1, a2, a3⟩, h2⟩ := hp
        exact ⟨_, _, rfl, ⟨es, rfl, a1, a2, fun x hx => hQ _ _ (a3 x hx)⟩, h2⟩
      · rename_i hc
        rw [if_neg hc]
        split at h
        · rename_i us hus
          split at h
          · rename_i hl
            cases h
            obtain ⟨vs, g1, g2⟩ := tyT_mono hQ hus
            simp only [g1]
            rw [if_pos ⟨by rw [g2.1]; exact hl.1, by rw [g2.1]; exact hl.2⟩]
            refine ⟨_, rfl, rfl, fun ps hp => ?_⟩
            simp only [okPVs, okPV] at hp ⊢
            obtain ⟨p, r, rfl, ⟨es, rfl, a1, a2, a3⟩, h2⟩ := hp
            exact ⟨_, _, rfl, ⟨es, rfl, a1, a2, fun x hx => g2.2 _ (a3 x hx)⟩, h2⟩
          · cases h
        · cases h
    · split at h
      · rename_i us hus
        split at h
        · rename_i hl
          cases h
          obtain ⟨vs, g1, g2⟩ := tyFs_mono (fun t ts h => tyT_mono hQ h) hus
          simp only [g1]
          rw [if_pos (by rw [g2.1]; exact hl)]
          exact ⟨_, rfl, g2⟩
        · cases h
      · cases h
    · rename_i m e hu
      split at h
      · rename_i us hus
        split at h
        · rename_i hl
          cases h
          obtain ⟨vs, g1, g2⟩ := tyT_mono hQ hus
          simp only [g1]
          rw [if_pos ⟨by rw [g2.1]; exact hl.1, by rw [g2.1]; exact hl.2⟩]
          exact ⟨_, rfl, g2.rep m⟩
        · cases h
      · cases h
    · cases h
theorem RecOk.mono {P : Program} {cut : List TypeId} {N : Nat} : ∀ k, Sub2 (RecOk P cut N k) (RecOk P cut N (k + 1))
  | 0, e, x, h => h.elim
  | k + 1, e, x, h => by
    obtain ⟨ts, h1, h2⟩ := h
    obtain ⟨us, g1, g2⟩ := tyT_mono (RecOk.mono k) h1
    exact ⟨us, g1, g2.2 _ h2⟩
abbrev cellsF (w : World) : Nat → Nat → Option Value := fun b o => w.cell? ⟨b, o, none⟩
def CellsOk (F : Nat → Nat → Option Value) (ts : List Cty) (cs : List Value) (ps : List PV) : Prop :=
  cs.length = ps.length ∧ okPVs ts ps ∧ ∀ (i : Nat) p, ps[i]? = some p → ∃ u, cs[i]? = some u ∧ VP F p u
theorem okPVs_append : ∀ {ts us : List Cty} {ps qs : List PV}, okPVs ts ps → okPVs us qs → okPVs (ts ++ us) (ps ++ qs)
  | [], us, ps, qs, h, k => by simp only [okPVs] at h; subst h; simpa using k
  | t :: ts, us, ps, qs, h, k => by
    simp only [okPVs] at h
    obtain ⟨p, r, rfl, h1, h2⟩ := h
    simp only [List.cons_append, okPVs]
    exact ⟨p, r ++ qs, rfl, h1, okPVs_append h2 k⟩
theorem okPVs_length : ∀ {ts : List Cty} {ps : List PV}, okPVs ts ps → ps.length = ts.length
  | [], ps, h => by simp only [okPVs] at h; subst h; rfl
  | t :: ts, ps, h => by
    simp only [okPVs] at h
    obtain ⟨p, r, rfl, h1, h2⟩ := h
    simp [okPVs_length h2]
theorem CellsOk.append {F : Nat → Nat → Option Value} {ts us : List Cty} {cs ds : List Value} {ps qs : List PV} (h : CellsOk F ts cs ps) (k : CellsOk F us ds qs) : CellsOk F (ts ++ us) (cs ++ ds) (ps ++ qs) := by
  refine ⟨by simp [h.1, k.1], okPVs_append h.2.1 k.2.1, fun i p hi => ?_⟩
  by_cases hlt : i < ps.length
  · rw [List.getElem?_append_left hlt] at hi
    rw [List.getElem?_append_left (by rw [h.1]; exact hlt)]
    exact h.2.2 i p hi
  · rw [List.getElem?_append_right (by omega)] at hi
    rw [List.getElem?_append_right (by rw [h.1]; omega), h.1]
    exact k.2.2 _ p hi
theorem CellsOk.one {F : Nat → Nat → Option Value} {t : Cty} {p : PV} {u : Value} (h : okPV t p) (k : VP F p u) : CellsOk F [t] [u] [p] := by
  refine ⟨rfl, ?_, fun i q hi => ?_⟩
  · simp only [okPVs]; exact ⟨p, [], rfl, h, rfl⟩
  · cases i with
    | zero => simp at hi; subst hi; exact ⟨u, rfl, k⟩
    | succ i => simp at hi
section
variable {H : Type} {enc : TypeId × Value → H} {P : Program} {W : World}
theorem weightsAll_mem {e : TypeId} : ∀ {ds : List (DataW H)} {d : DataW H} {x : Nat}, d ∈ ds → x ∈ d.weights P e → x ∈ DataW.weightsAll P e ds
  | [], d, x, hd, _ => by cases hd
  | y :: r, d, x, hd, hx => by
    simp only [DataW.weightsAll, List.mem_append]
    rcases List.mem_cons.1 hd with rfl | hd
    · exact .inl hx
    · exact .inr (weightsAll_mem hd hx)
theorem fields_pv {n : Nat} {rc : TypeId → Option (List Cty)}
    (ih : ∀ t cs d ps ts, DataW.trod enc P W 0 (fun _ => true) true n t cs = some (d, ps) → rc t = some ts → (∀ x ∈ d.weights P t, x ≤ reachBytes) → ∃ pv, CellsOk (cellsF W) ts cs pv) :
    ∀ (fs : List Field) (off : Nat) (cs : List Value) (xs : List (DataW H × List MemPlace)) (ts : List Cty), tyFs P rc off fs = some ts → xs.length = fs.length →
      (∀ (i : Nat) f, fs[i]? = some f → DataW.trod enc P W 0 (fun _ => true) true n f.type ((cs.drop (f.offset - off)).take (P.cellsOf f.type)) = xs[i]?) →
      (∀ x ∈ DataW.weightsEach P (fs.map (·.type)) (xs.map (·.1)), x ≤ reachBytes) → cs.length = ts.length → ∃ pv, CellsOk (cellsF W) ts cs pv
  | [], off, cs, xs, ts, ht, _, _, _, hl => by
    simp only [tyFs] at ht; cases ht
    simp at hl
    subst hl
    exact ⟨[], rfl, rfl, by simp⟩
  | f :: fs, off, cs, xs, ts, ht, hx, hg, hw, hl => by
    simp only [tyFs] at ht
    split at ht
    · rename_i ts1 h1
      split at ht
      · rename_i hc
        split at ht
        · rename_i l h2
          cases ht
          cases xs with
          | nil => simp at hx
          | cons x xs =>
            have g0 := hg 0 f rfl
            rw [hc.1, Nat.sub_self] at g0
            simp only [List.drop_zero, List.getElem?_cons_zero] at g0
            simp only [List.map_cons, DataW.weightsEach, List.mem_append] at hw
            obtain ⟨pv1, c1⟩ := ih _ _ x.1 x.2 _ g0 h1 (fun y hy => hw y (.inl hy))
            rw [List.length_append] at hl
            have hd : (cs.drop ts1.length).length = l.length := by simp [hl]
            obtain ⟨pv2, c2⟩ := fields_pv ih fs (off + ts1.length) (cs.drop ts1.length) xs l h2 (by simpa using hx) (fun i f' hf => by
              have := hg (i + 1) f' (by simpa using hf)
              simp only [List.getElem?_cons_succ] at this
              rw [← this, List.drop_drop]
              have hle : off + ts1.length ≤ f'.offset := tyFs_le h2 i f' hf
              congr 3
              omega) (fun y hy => hw y (.inr hy)) hd
            have e : cs = (cs.take (P.cellsOf f.type)) ++ cs.drop ts1.length := by rw [← hc.2, List.take_append_drop]
            rw [e]
            exact ⟨pv1 ++ pv2, c1.append c2⟩
        · cases ht
      · cases ht
    · cases ht
where
  tyFs_le {rc : TypeId → Option (List Cty)} : ∀ {fs : List Field} {off : Nat} {ts : List Cty}, tyFs P rc off fs = some ts → ∀ (i : Nat) f, fs[i]? = some f → off ≤ f.offset
  | [], _, _, _, i, f, hf => by simp at hf
  | g :: fs, off, ts, h, i, f, hf => by
    simp only [tyFs] at h
    split at h
    · rename_i ts1 h1
      split at h
      · rename_i hc
        split at h
        · rename_i l h2
          cases i with
          | zero => simp at hf; subst hf; omega
          | succ i => have := tyFs_le h2 i f (by simpa using hf); omega
        · cases h
      · cases h
    · cases h
theorem arr_pv {n : Nat} {e : TypeId} {ts : List Cty}
    (ih : ∀ cs d ps, DataW.trod enc P W 0 (fun _ => true) true n e cs = some (d, ps) → (∀ x ∈ d.weights P e, x ≤ reachBytes) → ∃ pv, CellsOk (cellsF W) ts cs pv) (hc : ts.length = P.cellsOf e) :
    ∀ (m : Nat) (cs : List Value) (xs : List (DataW H × List MemPlace)), xs.length = m → cs.length = m * ts.length →
      (∀ i, i < m → DataW.trod enc P W 0 (fun _ => true) true n e ((cs.drop (i * P.cellsOf e)).take (P.cellsOf e)) = xs[i]?) →
      (∀ x ∈ DataW.weightsAll P e (xs.map (·.1)), x ≤ reachBytes) → ∃ pv, CellsOk (cellsF W) (List.replicate m ts).flatten cs pv
  | 0, cs, xs, hx, hl, _, _ => by
    simp at hl
    subst hl
    exact ⟨[], rfl, rfl, by simp⟩
  | m + 1, cs, xs, hx, hl, hg, hw => by
    cases xs with
    | nil => simp at hx
    | cons x xs =>
      have g0 := hg 0 (by omega)
      simp only [Nat.zero_mul, List.drop_zero, List.getElem?_cons_zero] at g0
      simp only [List.map_cons, DataW.weightsAll, List.mem_append] at hw
      obtain ⟨pv1, c1⟩ := ih _ x.1 x.2 g0 (fun y hy => hw y (.inl hy))
      obtain ⟨pv2, c2⟩ := arr_pv ih hc m (cs.drop ts.length) xs (by simpa using hx) (by rw [List.length_drop, hl, Nat.add_mul]; omega) (fun i hi => by
        have := hg (i + 1) (by omega)
        simp only [List.getElem?_cons_succ] at this
        rw [← this, List.drop_drop]
        congr 3
        rw [Nat.add_mul, hc]; omega) (fun y hy => hw y (.inr hy))
      have e1 : cs = (cs.take (P.cellsOf e)) ++ cs.drop ts.length := by rw [← hc, List.take_append_drop]
      rw [e1, List.replicate_succ, List.flatten_cons]
      exact ⟨pv1 ++ pv2, c1.append c2⟩
theorem choose_list {α : Type} {R : Nat → α → Prop} : ∀ (n : Nat), (∀ i, i < n → ∃ a, R i a) → ∃ l : List α, l.length = n ∧ ∀ i a, l[i]? = some a → R i a
  | 0, _ => ⟨[], rfl, by simp⟩
  | n + 1, h => by
    obtain ⟨l, h1, h2⟩ := choose_list n (fun i hi => h i (by omega))
    obtain ⟨a, ha⟩ := h n (by omega)
    refine ⟨l ++ [a], by simp [h1], fun i b hb => ?_⟩
    rcases get_snoc_cases hb with ⟨_, hb⟩ | ⟨rfl, rfl⟩
    · exact h2 i b hb
    · rw [h1]; exact ha
theorem trod_pv {cut : List TypeId} {N : Nat} (hcut : ∀ e ∈ cut, ∀ Q, ∃ ts, tyT P cut Q N e = some ts ∧ ts.length = P.cellsOf e ∧ 0 < ts.length) : ∀ (fuel : Nat) (Q : TypeId → List PV → Prop) (hQ : Sub2 (RecOk P cut N fuel) Q) (n : Nat) (t : TypeId) (cs : List Value) (d : DataW H) (ps : List MemPlace) (ts : List Cty),
    DataW.trod enc P W 0 (fun _ => true) true fuel t cs = some (d, ps) → tyT P cut Q n t = some ts → (∀ x ∈ d.weights P t, x ≤ reachBytes) → ∃ pv, CellsOk (cellsF W) ts cs pv := by
  intro fuel
  induction fuel with
  | zero => intro Q hQ n t cs d ps ts h; simp [DataW.trod] at h
  | succ fuel ih0 =>
    intro Q hQ n t cs d ps ts h ht hw
    have ih := ih0 Q (fun e x hx => hQ e x (RecOk.mono fuel e x hx))
    cases n with
    | zero => simp [tyT] at ht
    | succ n =>
      simp only [tyT] at ht
      split at ht
      · rename_i hu
        cases ht
        obtain ⟨b, rfl, e⟩ := DataW.trod_bool hu h
        exact ⟨[.bool b], .one ⟨b, rfl⟩ (.bool b)⟩
      · rename_i k hu
        cases ht
        obtain ⟨m, rfl, e, hwf⟩ := DataW.trod_int hu h
        refine ⟨[.int k m], .one ⟨m, rfl, ?_⟩ (.int k m)⟩
        simpa [Lit.wf] using hwf
      · rename_i hu
        cases ht
        obtain ⟨s, rfl, e, hwf⟩ := DataW.trod_string hu h
        cases e
        have := hw s.data.toList.length (by simp [DataW.weights])
        exact ⟨[.str s.data.toList], .one ⟨_, rfl, this⟩ (by have := VP.str (F := cellsF W) s.data.toList; simpa using this)⟩
      · rename_i e hu
        have slc : ∀ (us : List Cty) (c : Cty), us.length = P.cellsOf e → 0 < us.length → (∀ es : List (List PV), es.length * P.bytesOf e ≤ reachBytes → es.length ≤ maxLen → (∀ x ∈ es, okPVs us x) → okPV c (.sl es)) →
            (∀ cs d ps, DataW.trod enc P W 0 (fun _ => true) true fuel e cs = some (d, ps) → (∀ x ∈ d.weights P e, x ≤ reachBytes) → ∃ pv, CellsOk (cellsF W) us cs pv) → ∃ pv, CellsOk (cellsF W) [c] cs pv := by
          intro us c hc1 hc2 hokc ihe
          rcases DataW.trod_slice hu h with ⟨rfl, _⟩ | ⟨a, len, cap, elems, rest, m, hm, rfl, hx, _, hlc, hcm, hel, hg, hsp, _⟩
          · exact ⟨[.sl []], .one (hokc [] (by simp) (by simp) (by simp)) .nils⟩
          · obtain rfl : m = fuel := by omega
            cases hx
            have hwl : (elems.length + rest.length) * P.bytesOf e ≤ reachBytes := hw _ (by simp [DataW.weights, hu])
            have each : ∀ i, i < len → ∃ pv : List PV, okPVs us pv ∧ pv.length = us.length ∧ ∀ (j : Nat) p, pv[j]? = some p → ∃ u, W.cell? ((a.add (i * P.cellsOf e)).add j) = some u ∧ VP (cellsF W) p u := by
              intro i hi
              have := hg i hi
              have hlt : i < elems.length := by omega
              rw [List.getElem?_eq_getElem hlt, Option.bind_eq_some_iff] at this
              obtain ⟨cs', h1, h2⟩ := this
              obtain ⟨pv, c1, c2, c3⟩ := ihe cs' elems[i].1 elems[i].2 (by rw [h2]) (fun x hx => hw x (by
                simp only [DataW.weights, hu, List.mem_cons, List.mem_append]
                exact .inr (.inl (weightsAll_mem (List.mem_map.2 ⟨elems[i], List.getElem_mem _, rfl⟩) hx))))
              refine ⟨pv, c2, okPVs_length c2, fun j p hj => ?_⟩
              obtain ⟨u, hu', hv⟩ := c3 j p hj
              refine ⟨u, ?_, hv⟩
              unfold World.cells? at h1
              split at h1
              · have := mapM_some_get h1 j j (by
                  have := (List.getElem?_eq_some_iff.1 hu').1
                  have := mapM_some_length h1
                  simp at this
                  rw [List.getElem?_range (by omega)])
                rw [this]; exact hu'
              · cases h1
            obtain ⟨es, e1, e2⟩ := choose_list len each
            have hall : ∀ x ∈ es, okPVs us x ∧ x.length = us.length := by
              intro x hx
              obtain ⟨i, hi⟩ := List.getElem?_of_mem hx
              exact ⟨(e2 i x hi).1, (e2 i x hi).2.1⟩
            have hok : okPV c (.sl es) := hokc es (Nat.le_trans (Nat.mul_le_mul_right _ (by omega)) hwl) (by omega) (fun x hx => (hall x hx).1)
            by_cases h0 : len = 0
            · subst h0
              have : es = [] := List.eq_nil_of_length_eq_zero e1
              subst this
              exact ⟨[.sl []], .one hok (.sl0 a cap hcm)⟩
            · have hspot : a.spot = none := by
                obtain ⟨x, hx⟩ : ∃ x, es[0]? = some x := ⟨es[0]'(by omega), by simp [show 0 < es.length by omega]⟩
                obtain ⟨_, hxl, hcell⟩ := e2 0 x hx
                obtain ⟨p, hp⟩ : ∃ p, x[0]? = some p := ⟨x[0]'(by omega), by simp [show 0 < x.length by omega]⟩
                obtain ⟨u, hu', _⟩ := hcell 0 p hp
                simp only [Nat.zero_mul, Addr.add, if_true] at hu'
                unfold World.cell? at hu'
                split at hu'
                · split at hu'
                  · cases hu'
                  · rename_i hs; simpa using hs
                · cases hu'
              obtain ⟨b, off, sp⟩ := a
              simp only at hspot
              subst hspot
              refine ⟨[.sl es], .one hok ?_⟩
              have key : ∀ i j p, at2 es i j = some p → ∃ u, cellsF W b (off + i * us.length + j) = some u ∧ VP (cellsF W) p u := by
                intro i j p hp
                unfold at2 at hp
                rw [Option.bind_eq_some_iff] at hp
                obtain ⟨x, hx, hj⟩ := hp
                obtain ⟨_, _, hcell⟩ := e2 i x hx
                obtain ⟨u, hu', hv⟩ := hcell j p hj
                refine ⟨u, ?_, hv⟩
                rw [Addr.add_lit, Addr.add_lit, ← hc1] at hu'
                exact hu'
              have := VP.mk (F := cellsF W) (es := es) (size := us.length) (b := b) (off := off) (cap := cap) (by omega) hcm (fun x hx => (hall x hx).2) key
              rw [e1] at this
              exact this
        split at ht
        · rename_i hcu
          cases ht
          obtain ⟨us, k1, k2, k3⟩ := hcut e hcu (RecOk P cut N fuel)
          refine slc us _ k2 k3 (fun es h1 h2 h3 => ⟨es, rfl, h1, h2, fun x hx => hQ e x ⟨us, k1, h3 x hx⟩⟩) (fun cs d ps h1 h2 => ih0 (RecOk P cut N fuel) (fun _ _ h => h) N e cs d ps us h1 k1 h2)
        · split at ht
          · rename_i us hus
            split at ht
            · rename_i hc
              cases ht
              exact slc us _ hc.1 hc.2 (fun es h1 h2 h3 => ⟨es, rfl, h1, h2, h3⟩) (fun cs d ps h1 h2 => ih n e cs d ps us h1 hus h2)
            · cases ht
          · cases ht
      · rename_i fs hu
        split at ht
        · rename_i us hus
          split at ht
          · rename_i hc
            rw [← Option.some.inj ht]
            obtain ⟨xs, m, hm, hx, hl, hxl, hg⟩ := DataW.trod_struct hu h
            obtain rfl : m = fuel := by omega
            cases hx
            refine fields_pv (fun t cs d ps ts h1 h2 h3 => ih n t cs d ps ts h1 h2 h3) fs.toList 0 cs xs us hus (by simp [hxl]) (fun i f hf => ?_) (fun x hx => hw x (by simp [DataW.weights, hu, hx])) (by rw [hl, hc])
            simpa using hg i f (by simpa using hf)
          · cases ht
        · cases ht
      · rename_i m e hu
        split at ht
        · rename_i us hus
          split at ht
          · rename_i hc
            cases ht
            obtain ⟨xs, q, hq, hx, hl, hxl, hg⟩ := DataW.trod_array hu h
            obtain rfl : q = fuel := by omega
            cases hx
            exact arr_pv (fun cs d ps h1 h3 => ih n e cs d ps us h1 hus h3) hc.2 m cs xs hxl (by rw [hl, hc.1]) hg (fun x hx => hw x (by simp [DataW.weights, hu, hx]))
          · cases ht
        · cases ht
      · cases ht
def argLV (agg : Bool) (ps : List PV) : LV := if agg then .agg (ps.map .p) else match ps with | [p] => .p p | _ => .und
def tyPs (P : Program) (cut : List TypeId) (Q : TypeId → List PV → Prop) (n : Nat) : List TypeId → Option (List (Bool × List Cty))
  | [] => some []
  | t :: r => match P.underlying t, tyT P cut Q n t, tyPs P cut Q n r with
    | some d, some ts, some l => some ((aggB d, ts) :: l)
    | _, _, _ => none
def OkArgs : List (Bool × List Cty) → List LV → Prop
  | [], l => l = []
  | (agg, ts) :: r, l => ∃ ps m, l = argLV agg ps :: m ∧ okPVs ts ps ∧ OkArgs r m
theorem tyT_one {cut : List TypeId} {Q : TypeId → List PV → Prop} {n : Nat} {t : TypeId} {d : TypeDesc} {ts : List Cty} (hd : P.underlying t = some d) (ha : aggB d = false) (h : tyT P cut Q n t = some ts) : ts.length = 1 := by
  cases n with
  | zero => simp [tyT] at h
  | succ n =>
    simp only [tyT, hd] at h
    cases d <;> simp only [aggB, Bool.true_eq_false] at ha <;> first | (cases h; rfl) | skip
    all_goals
      simp only at h
      first
        | (split at h
           · cases h; rfl
           · split at h
             · split at h
               · cases h; rfl
               · cases h
             · cases h)
        | (split at h
           · split at h
             · cases h; rfl
             · cases h
           · cases h)
        | cases h
theorem tyPs_mono {cut : List TypeId} {Q R : TypeId → List PV → Prop} (hQ : Sub2 Q R) {n : Nat} : ∀ {ts : List TypeId} {a b : List (Bool × List Cty)}, tyPs P cut Q n ts = some a → tyPs P cut R n ts = some b → ∀ vs, OkArgs a vs → OkArgs b vs
  | [], a, b, h, k, vs, hv => by simp only [tyPs] at h k; cases h; cases k; exact hv
  | t :: r, a, b, h, k, vs, hv => by
    simp only [tyPs] at h k
    split at h
    · rename_i d ts l h1 h2 h3
      cases h
      obtain ⟨us, g1, g2⟩ := tyT_mono hQ h2
      split at k
      · rename_i d' ts' l' e1 e2 e3
        rw [h1] at e1; rw [g1] at e2
        cases e1; cases e2; cases k
        obtain ⟨ps, m, rfl, a1, a2⟩ := hv
        exact ⟨ps, m, rfl, g2.2 _ a1, tyPs_mono hQ h3 e3 _ a2⟩
      · cases k
    · cases h
theorem RecOk.le {cut : List TypeId} {N : Nat} : ∀ {k m : Nat}, k ≤ m → Sub2 (RecOk P cut N k) (RecOk P cut N m)
  | k, m, h => by
    induction h with
    | refl => exact fun _ _ h => h
    | step _ ih => exact fun e x hx => RecOk.mono _ e x (ih e x hx)
theorem args_pv {cut : List TypeId} {N : Nat} (hcut : ∀ e ∈ cut, ∀ Q, ∃ ts, tyT P cut Q N e = some ts ∧ ts.length = P.cellsOf e ∧ 0 < ts.length) {n : Nat} {G : Gh} (hG : G.F = cellsF W) : ∀ {ts : List TypeId} {vs : List Value} {ds gs : List (DataW H)} {us : List TypeId} {ps : List MemPlace} {tys : Nat → List (Bool × List Cty)}, DataW.TrodAll enc P W 0 (fun _ => true) true ts vs ds ps → (∀ k, tyPs P cut (RecOk P cut N k) n ts = some (tys k)) →
    (∀ (j : Nat) t v, ts[j]? = some t → vs[j]? = some v → Value.okWide P W .any 0 t v ∨ ∃ base, Value.okWide P W .any base t v) → (∀ x ∈ DataW.weightsEach P (ts ++ us) (ds ++ gs), x ≤ reachBytes) →
    ∃ k, ∃ args, OkArgs (tys k) args ∧ args.length = vs.length ∧ ∀ (i : Nat) x u, args[i]? = some x → vs[i]? = some u → VL G x u
  | [], vs, ds, gs, us, ps, tys, h, ht, _, _ => by
    have := ht 0
    simp only [tyPs, Option.some.injEq] at this
    obtain ⟨rfl, _, _⟩ := ChangeShapes.trodAll_nil h
    exact ⟨0, [], by rw [← this]; rfl, rfl, by simp⟩
  | t :: ts, vs, ds, gs, us, ps, tys, h, ht, hok, hw => by
    have hk : ∀ k, ∃ dd tt ll, P.underlying t = some dd ∧ tyT P cut (RecOk P cut N k) n t = some tt ∧ tyPs P cut (RecOk P cut N k) n ts = some ll ∧ tys k = (aggB dd, tt) :: ll := by
      intro k
      have := ht k
      simp only [tyPs] at this
      split at this
      · rename_i dd tt ll h1 h2 h3
        exact ⟨dd, tt, ll, h1, h2, h3, (Option.some.inj this).symm⟩
      · cases this
    have hl' : ∀ k, tyPs P cut (RecOk P cut N k) n ts = some ((tyPs P cut (RecOk P cut N k) n ts).getD []) := by
      intro k
      obtain ⟨dd, tt, ll, _, _, h3, _⟩ := hk k
      rw [h3]; rfl
    · obtain ⟨v, vs', d, ds', p, q, rfl, rfl, rfl, ⟨fuel, h1⟩, h2⟩ := ChangeShapes.trodAll_cons h
      simp only [List.cons_append, DataW.weightsEach, List.mem_append] at hw
      obtain ⟨dd, tt, ll0, hd, htt, _, _⟩ := hk fuel
      obtain ⟨pv, c1, c2, c3⟩ := trod_pv hcut fuel _ (fun _ _ h => h) n t _ d p tt h1 htt (fun x hx => hw x (.inl hx))
      obtain ⟨k', args, a1, a2, a3⟩ := args_pv hcut (n := n) hG h2 (tys := fun k => (tyPs P cut (RecOk P cut N k) n ts).getD []) hl' (fun j t v hj hv => hok (j + 1) t v (by simpa using hj) (by simpa using hv)) (fun x hx => hw x (.inr hx))
      have hv : VL G (argLV (aggB dd) pv) v := by
        have hlen := okPVs_length c2
        obtain ⟨base, hk⟩ : ∃ base, Value.okWide P W .any base t v := by
          rcases hok 0 t v rfl rfl with h | h
          · exact ⟨0, h⟩
          · exact h
        unfold argLV
        split
        · rename_i ha
          have : ∃ arr, v = .agg arr := by
            unfold Value.okWide at hk
            rw [hd] at hk
            cases dd <;> simp [aggB] at ha
            all_goals exact ⟨_, hk.choose_spec.1⟩
          obtain ⟨arr, rfl⟩ := this
          simp only [Value.cells] at c1 c3
          refine .agg arr (by simpa using c1) (fun i u hu => ?_) (fun i x hx => ?_)
          · have hlt : i < pv.length := by rw [← c1]; simpa using (Array.getElem?_eq_some_iff.1 hu).1
            obtain ⟨u', hu', hvp⟩ := c3 i pv[i] (by simp [hlt])
            rw [Array.getElem?_toList, hu] at hu'
            cases hu'
            exact hvp.one
          · rw [List.getElem?_map] at hx
            cases hq : pv[i]? with
            | none => simp [hq] at hx
            | some y =>
              simp [hq] at hx; subst hx
              obtain ⟨u', hu', hvp⟩ := c3 i y hq
              rw [Array.getElem?_toList] at hu'
              rw [Array.getD_eq_getD_getElem?, hu']
              rw [← hG] at hvp
              exact .p hvp
        · rename_i ha
          have h1 := tyT_one hd (by simpa using ha) htt
          have hna : ∀ arr, v ≠ .agg arr := by
            rintro arr rfl
            unfold Value.okWide at hk
            rw [hd] at hk
            cases dd <;> simp [aggB] at ha <;> simp [Cell.okWide, Cell.ok, hd] at hk
          obtain ⟨y, rfl⟩ := List.length_eq_one_iff.1 (hlen.trans h1)
          · obtain ⟨u', hu', hvp⟩ := c3 0 y rfl
            have : v.cells = #[v] := by cases v <;> first | rfl | exact absurd rfl (hna _)
            rw [this] at hu'
            simp at hu'
            subst hu'
            rw [← hG] at hvp
            exact .p hvp
      obtain ⟨dd2, tt2, ll2, q1, q2, q3, q4⟩ := hk (max fuel k')
      have hdd : dd2 = dd := by rw [hd] at q1; exact (Option.some.inj q1).symm
      subst hdd
      obtain ⟨us2, g1, g2⟩ := tyT_mono (RecOk.le (P := P) (cut := cut) (N := N) (Nat.le_max_left fuel k')) htt
      rw [q2] at g1
      cases g1
      have a1' := tyPs_mono (RecOk.le (P := P) (cut := cut) (N := N) (Nat.le_max_right fuel k')) (hl' k') q3 _ a1
      refine ⟨max fuel k', argLV (aggB dd2) pv :: args, by rw [q4]; exact ⟨pv, args, rfl, g2.2 _ c2, a1'⟩, by simp [a2], fun i x u hx hu => ?_⟩
      cases i with
      | zero => simp at hx hu; subst hx; subst hu; exact hv
      | succ i => exact a3 i x u (by simpa using hx) (by simpa using hu)
end
end Go.LS
namespace Go.LS
def gh0 (w : World) : Gh := ⟨cellsF w, fun _ => none, fun _ _ => none⟩
theorem wr0 (w : World) : WR (gh0 w) [] w where
  fr _ _ _ h := h
  dom _ _ := ⟨rfl, fun _ => rfl⟩
  row o es h := by simp at h
  map o es h := by simp at h
  iter o s p h := by simp at h
  spare o n hw h := by simp at h
  uniq o o' b h := by simp [Owns] at h
  ownF o b h := by simp [Owns] at h
  kind o x h := by simp at h
theorem Ext0.below {G G' : Gh} {st' : List LObj} {w w' : World} (h : Ext0 G [] w G' st' w') : RowKit.Below w.heap.size w w' :=
  ⟨h.os, h.tape, h.output, h.hsz, fun k hk => h.unch k hk (fun o ho => by simp [Owns] at ho)⟩
theorem trodAll_stays {H : Type} {enc : TypeId × Value → H} {P : Program} (hl : laidOutB P = true) {W W' : World} (hb : RowKit.Below W.heap.size W W') :
    ∀ {ts : List TypeId} {vs : List Value} {ds : List (DataW H)} {ps : List MemPlace}, (∀ t ∈ ts, P.readableRec t = true ∧ t < P.types.size) → DataW.TrodAll enc P W 0 (fun _ => true) true ts vs ds ps →
      DataW.TrodAll enc P W' 0 (fun b => decide (b < W.heap.size)) true ts vs ds ps
  | [], vs, ds, ps, _, h => by
    obtain ⟨rfl, rfl, rfl⟩ := ChangeShapes.trodAll_nil h
    rfl
  | t :: ts, vs, ds, ps, ht, h => by
    obtain ⟨v, vs', d, ds', p, q, rfl, rfl, rfl, h1, h2⟩ := ChangeShapes.trodAll_cons h
    refine ⟨p, q, ?_, trodAll_stays hl hb (fun t hm => ht t (by simp [hm])) h2, rfl⟩
    exact RowKit.Below.trod hl (ht t (by simp)).1 (ht t (by simp)).2 h1 hb (fun x hx => by
      obtain ⟨m, hm⟩ := h1
      exact DataW.trod_lt m _ _ _ hm x hx)
theorem trodAll_len {H : Type} {enc : TypeId × Value → H} {P : Program} {W : World} : ∀ {ts : List TypeId} {vs : List Value} {ds : List (DataW H)} {ps : List MemPlace}, DataW.TrodAll enc P W 0 (fun _ => true) true ts vs ds ps → ds.length = vs.length
  | [], vs, ds, ps, h => by
    obtain ⟨rfl, rfl, _⟩ := ChangeShapes.trodAll_nil h
    rfl
  | t :: ts, vs, ds, ps, h => by
    obtain ⟨v, vs', d, ds', p, q, rfl, rfl, rfl, _, h2⟩ := ChangeShapes.trodAll_cons h
    simp [trodAll_len h2]
theorem law_contract {H : Type} {enc : TypeId × Value → H} {P : Program} {lp : LProg} (hp : PR P lp) (hl : laidOutB P = true) {f : FuncId} {fn : Func} {s : ChangeSpec} {tb : TypeId} {cut : List TypeId} {N n : Nat} {tys : Nat → List (Bool × List Cty)}
    (hcut : ∀ e ∈ cut, ∀ Q, ∃ ts, tyT P cut Q N e = some ts ∧ ts.length = P.cellsOf e ∧ 0 < ts.length)
    (hps : fn.params.toList.all (fun t => P.readableRec t && decide (t < P.types.size)) = true) (hres : fn.resultTypes = #[tb]) (htb : P.underlying tb = some .bool)
    (ht : ∀ k, tyPs P cut (RecOk P cut N k) n fn.params.toList = some (tys k)) (hv : s.vars = []) (hsz : ∀ k, ∀ vs : List LV, OkArgs (tys k) vs → vs.length = fn.params.size)
    (hs : ∀ ds : List (DataW H), ds.length = fn.params.size → s.fn H ds = { results := [.lit (.bool true)], args := ds, vars := [] })
    (W : World) (base : Nat) (args : Array Value) (ds gs : List (DataW H)) (before : List MemPlace)
    (hrun : ∀ j vs, OkArgs (tys j) vs → ∃ k st', runF lp k f vs [] = some (.p (.bool true), st'))
    (hval : ∀ (j : Nat) t v, fn.params[j]? = some t → args[j]? = some v → Value.okWide P W .any base t v)
    (hW : DataW.Whole enc P fn.params.toList s.vars false W args.toList ds gs before)
    (hw : (DataW.weightsEach P (fn.params.toList ++ s.plain.varTypes P) (ds ++ gs)).all (· ≤ reachBytes) = true) :
    Calls P f args W fun e W' => ∃ v, e = .returned v ∧ s.post enc P fn false true false false W args v W' := by
  have hW' := hW
  obtain ⟨p, q, hA, hV, rfl, hfz, _⟩ := hW
  rw [hv] at hV
  obtain ⟨rfl, rfl⟩ := ChangeShapes.trodVars_none hV
  have hwx : ∀ x ∈ DataW.weightsEach P (fn.params.toList ++ s.plain.varTypes P) (ds ++ []), x ≤ reachBytes := fun x hx => by simpa using List.all_eq_true.1 hw x hx
  obtain ⟨j0, vs, a1, a2, a3⟩ := args_pv (G := gh0 W) hcut rfl hA ht (fun j t v hj hv' => .inr ⟨base, hval j t v (by simpa using hj) (by simpa using hv')⟩) hwx
  obtain ⟨k, st', hr⟩ := hrun j0 vs a1
  obtain ⟨_, hcall⟩ := runF_sound hp k f vs [] _ _ hr
  refine (hcall (gh0 W) W args (wr0 W) ⟨by simpa using a2.symm, fun i x hx => ?_⟩).mono ?_
  · have hlt : i < args.size := by have := (List.getElem?_eq_some_iff.1 hx).1; rw [a2] at this; simpa using this
    have := a3 i x args[i] hx (by simp [hlt])
    rw [Array.getD_eq_getD_getElem?, Array.getElem?_eq_getElem hlt]
    exact this
  · rintro e W' ⟨u, G', rfl, _, hu, hx⟩
    have hub := hu.bool_inv
    subst hub
    have bel := hx.below
    have hdl : ds.length = fn.params.size := by
      rw [← hsz j0 vs a1, a2]
      exact trodAll_len hA
    refine ⟨_, rfl, ds, [], _, [], p, [], hW', ?_, ?_, ?_, bel.frame _, fun h => by cases h⟩
    · rw [List.append_nil, hs ds hdl, hres]
      exact ChangeShapes.trodAll_mk1 ⟨1, by simp [DataW.trod, htb, Value.cells]⟩
    · rw [List.append_nil, hs ds hdl]
      refine trodAll_stays hl bel (fun t hm => ?_) hA
      have := List.all_eq_true.1 hps t hm
      simpa using this
    · rw [List.append_nil, hs ds hdl, hv]
      rfl
end Go.LS
namespace Go.LS
theorem OkArgs.length : ∀ {tys : List (Bool × List Cty)} {vs : List LV}, OkArgs tys vs → vs.length = tys.length
  | [], vs, h => by cases h; rfl
  | (a, t) :: r, vs, h => by
    obtain ⟨ps, m, rfl, _, h2⟩ := h
    simp [h2.length]
end Go.LS
set_option linter.unusedVariables false
set_option linter.unusedSimpArgs false
namespace Go.LS
inductive Orc where
  | b (c : Bool)
  | op (v : LV) (st : List LObj)
  | call (v : LV) (st : List LObj)
  | lp (out : LOut) (t : List LV) (st : List LObj)
  | lg (out : LOut) (t : List LV) (st : List LObj) (t0 : List LV) (st0 : List LObj)
  | cg (v : LV) (st : List LObj)
abbrev Os := List (Nat × Orc)
def tick : Os → Option Orc × Os
  | (0, o) :: r => (some o, r)
  | (n + 1, o) :: r => (none, (n, o) :: r)
  | [] => (none, [])
def LX.inst (t : List LV) (x : LX) : LX := .const (x.ev t)
def noCall : CallF := ⟨fun _ _ _ => none, fun _ => false⟩
def LOp.inst (t : List LV) : LOp → LOp
  | .mv x => .mv (x.inst t)
  | .pick c a b => .pick (c.inst t) (a.inst t) (b.inst t)
  | .alloc z => .alloc z
  | .box x => .box (x.inst t)
  | .build z ps => .build z (ps.map fun p => (p.1, p.2.1, p.2.2.inst t))
  | .mkrow r s l z ps => .mkrow r s l z (ps.map fun p => (p.1, p.2.inst t))
  | .load a n x => .load a n (x.inst t)
  | .store n x v => .store n (x.inst t) (v.inst t)
  | .nilChk x => .nilChk (x.inst t)
  | .bin o x y => .bin o (x.inst t) (y.inst t)
  | .beq o x y => .beq o (x.inst t) (y.inst t)
  | .peq o x y => .peq o (x.inst t) (y.inst t)
  | .nileq o k x => .nileq o k (x.inst t)
  | .un o x => .un o (x.inst t)
  | .cv k x => .cv k (x.inst t)
  | .fn f cs => .fn f (cs.map (LX.inst t))
  | .fnm f fs cs => .fnm f (fs.map (LX.inst t)) (cs.map (LX.inst t))
  | .clearS z x => .clearS z (x.inst t)
  | .appendR n m a b => .appendR n m (a.inst t) (b.inst t)
  | .iface ty x => .iface ty (x.inst t)
  | .mkmap => .mkmap
  | .mkslice a b z l c => .mkslice a b z (l.inst t) (c.inst t)
  | .sslice x a b c => .sslice (x.inst t) (a.map (LX.inst t)) (b.map (LX.inst t)) (c.map (LX.inst t))
  | .slice n x a b c => .slice n (x.inst t) (a.map (LX.inst t)) (b.map (LX.inst t)) (c.map (LX.inst t))
  | .fieldAddr n x => .fieldAddr n (x.inst t)
  | .field g n m x => .field g n m (x.inst t)
  | .indexAddr n x i => .indexAddr n (x.inst t) (i.inst t)
  | .arrAddr n m x i => .arrAddr n m (x.inst t) (i.inst t)
  | .index x i => .index (x.inst t) (i.inst t)
  | .arrIndex g n m x i => .arrIndex g n m (x.inst t) (i.inst t)
  | .lookup k z o x i => .lookup k z o (x.inst t) (i.inst t)
  | .mapUpdate k a b c => .mapUpdate k (a.inst t) (b.inst t) (c.inst t)
  | .delete k a b => .delete k (a.inst t) (b.inst t)
  | .range x => .range (x.inst t)
  | .next x => .next (x.inst t)
  | .extract x i => .extract (x.inst t) i
  | .call f as => .call f (as.map (LX.inst t))
  | .callv f as => .callv (f.inst t) (as.map (LX.inst t))
  | .callz f as => .callz f (as.map (LX.inst t))
  | .append s n m a b => .append s n m (a.inst t) (b.inst t)
  | .grow n m a b => .grow n m (a.inst t) (b.inst t)
  | .len x => .len (x.inst t)
  | .slen x => .slen (x.inst t)
  | .mlen x => .mlen (x.inst t)
  | .const v => .const v
  | .fail => .fail
  | .seq n l x y => .seq n l (x.inst t) (y.inst t)
  | .retire x => .retire (x.inst t)
  | .cap x => .cap (x.inst t)
  | .mx x y => .mx (x.inst t) (y.inst t)
  | .mn x y => .mn (x.inst t) (y.inst t)
theorem inst_ev (t s : List LV) (x : LX) : (x.inst t).ev s = x.ev t := rfl
theorem inst_evs (t s : List LV) (xs : List LX) : (xs.map (LX.inst t)).map (LX.ev s) = xs.map (LX.ev t) := by rw [List.map_map]; rfl
theorem inst_evo (t s : List LV) (xs : Option LX) : (xs.map (LX.inst t)).map (LX.ev s) = xs.map (LX.ev t) := by cases xs <;> rfl
theorem inst_parts (t s : List LV) : ∀ (ps : List (Nat × Nat × LX)), evParts s (ps.map fun p => (p.1, p.2.1, p.2.2.inst t)) = evParts t ps
  | [] => rfl
  | (a, b, x) :: r => by simp only [List.map_cons, evParts, inst_ev, inst_parts t s r]
theorem inst_row (t s : List LV) : ∀ (ps : List (Nat × LX)), evRow s (ps.map fun p => (p.1, p.2.inst t)) = evRow t ps
  | [] => rfl
  | (a, x) :: r => by simp only [List.map_cons, evRow, inst_ev, inst_row t s r]
theorem opStep_inst (call : CallF) (t s : List LV) (st : List LObj) (op : LOp) : opStep call s st (op.inst t) = opStep call t st op := by
  cases op <;> simp only [LOp.inst, opStep, inst_ev, inst_evs, inst_evo, inst_parts, inst_row]
abbrev OpIs (t : List LV) (st : List LObj) (op : LOp) (v : LV) (st' : List LObj) : Prop := opStep noCall [] st (op.inst t) = some (v, st')
theorem noCall_le (c : CallF) : CallLe noCall c := fun f a s r h => by simp [noCall] at h
theorem OpIs.step {t : List LV} {st st' : List LObj} {op : LOp} {v : LV} (h : OpIs t st op v st') (c : CallF) : opStep c t st op = some (v, st') :=
  opStep_mono (noCall_le c) (by rw [← opStep_inst noCall t []]; exact h)
def callO (lp : LProg) (f : FuncId) (args : List LV) (st : List LObj) (r : LV) (st1 : List LObj) : Option (LV × List LObj × Prop) :=
  let args := wk (lp.weak f) args
  let ids := reach st 100000 (args.flatMap LV.refs) []
  if closed st ids && (args.flatMap LV.refs).all (ids.contains ·) && decide ids.Nodup then
    if ids.length ≤ st1.length then
      let b := back ids st.length
      some (r.ren b, putBack st ids ((st1.take ids.length).map (LObj.ren b)) ++ (st1.drop ids.length).map (LObj.ren b),
        Runs lp f (args.map (LV.ren fun q => ids.idxOf q)) (sub st ids) (r, st1))
    else none
  else none
theorem callO_sound {lp : LProg} {f : FuncId} {args : List LV} {st st1 st' : List LObj} {r v : LV} {p : Prop} (h : callO lp f args st r st1 = some (v, st', p)) (hp : p) :
    ∃ n, ∀ m, n ≤ m → callIso (runF lp m) f args st = some (v, st') := by
  unfold callO at h
  simp only at h
  split at h
  · rename_i hc
    split at h
    · rename_i hl
      cases h
      obtain ⟨n, hn⟩ := Runs.at hp
      refine ⟨n, fun m hm => ?_⟩
      unfold callIso
      simp only
      rw [runF_weak, if_pos hc, hn m hm]
      simp only
      rw [if_pos hl]
    · cases h
  · cases h
def callOz (lp : LProg) (f : FuncId) (args : List LV) (st : List LObj) (r : LV) (st1 : List LObj) : Option (LV × List LObj × Prop) :=
  let args := wk (lp.weak f) args
  let ids := reach st 100000 (args.flatMap LV.refs) []
  if closed st ids && (args.flatMap LV.refs).all (ids.contains ·) && decide ids.Nodup then
    if ids.length ≤ st1.length then
      let b := back ids st.length
      some (r.ren b, putBack st ids ((st1.take ids.length).map (LObj.ren b)) ++ (st1.drop ids.length).map (LObj.ren b),
        RunsZ lp f (args.map (LV.ren fun q => ids.idxOf q)) (sub st ids) (r, st1))
    else none
  else none
theorem callOz_sound {lp : LProg} {f : FuncId} {args : List LV} {st st1 st' : List LObj} {r v : LV} {p : Prop} (h : callOz lp f args st r st1 = some (v, st', p)) (hp : p) :
    ∃ n, ∀ m, n ≤ m → callIso (callFz (runF lp m)) f args st = some (v, st') := by
  unfold callOz at h
  simp only at h
  split at h
  · rename_i hc
    split at h
    · rename_i hl
      cases h
      obtain ⟨n, hn⟩ := RunsZ.at hp
      refine ⟨n, fun m hm => ?_⟩
      unfold callIso
      simp only
      have hw : (callFz (runF lp m)).weak f = lp.weak f := by show (runF lp m).weak f = _; rw [runF_weak]
      rw [hw, if_pos hc, hn m hm]
      simp only
      rw [if_pos hl]
    · cases h
  · cases h
def CallAt (lp : LProg) (f : FuncId) (args : List LV) (st : List LObj) (r : LV × List LObj) : Prop := ∃ n, ∀ m, n ≤ m → callIso (runF lp m) f args st = some r
def gdO (t : List LV) (g : Option (Nat × Bool)) (os : Os) : Option (Bool × List Prop × Os) :=
  match g with
  | none => some (true, [], os)
  | some (j, want) => match tick os with
    | (some (.b c), os') => some (c == want, [t.getD j .und = .p (.bool c)], os')
    | (none, os') => match gd t (some (j, want)) with
      | some b => some (b, [], os')
      | none => none
    | _ => none
abbrev AllP (ps : List Prop) : Prop := ∀ p ∈ ps, p
theorem gdO_sound {t : List LV} {g : Option (Nat × Bool)} {os os' : Os} {b : Bool} {ps : List Prop} (h : gdO t g os = some (b, ps, os')) (hp : AllP ps) : gd t g = some b := by
  unfold gdO at h
  split at h
  · cases h; rfl
  · split at h
    · cases h
      have := hp _ (List.mem_singleton.2 rfl)
      simp only [gd, this]
    · split at h
      · cases h; assumption
      · cases h
    · cases h
def stepO (lp : LProg) (t : List LV) (st : List LObj) (op : LOp) (os : Os) : Option (LV × List LObj × List Prop × Os) :=
  match tick os with
  | (none, os') => match opStep noCall t st op with
    | some (v, st') => some (v, st', [], os')
    | none => none
  | (some (.op v st'), os') => some (v, st', [OpIs t st op v st'], os')
  | (some (.call r st1), os') => match op with
    | .call f args => match callO lp f (args.map (LX.ev t)) st r st1 with
      | some (v, st', p) => some (v, st', [p], os')
      | none => none
    | .callz f args => match callOz lp f (args.map (LX.ev t)) st r st1 with
      | some (v, st', p) => some (v, st', [p], os')
      | none => none
    | .callv f args => match f.ev t with
      | .fn (.func g) first captured => match callO lp g (first ++ args.map (LX.ev t) ++ captured) st r st1 with
        | some (v, st', p) => some (v, st', [p], os')
        | none => none
      | _ => none
    | _ => none
  | (some (.cg v st'), os') => match op with
    | .call f args => some (v, st', [CallAt lp f (args.map (LX.ev t)) st (v, st')], os')
    | .callv f args => match f.ev t with
      | .fn (.func g) first captured => some (v, st', [CallAt lp g (first ++ args.map (LX.ev t) ++ captured) st (v, st')], os')
      | _ => none
    | _ => none
  | (some (.b c), os') => match op with
    | .pick x a b => some (if c then a.ev t else b.ev t, st, [x.ev t = .p (.bool c)], os')
    | _ => none
  | _ => none
theorem stepO_sound {lp : LProg} {t : List LV} {st st' : List LObj} {op : LOp} {os os' : Os} {v : LV} {ps : List Prop} (h : stepO lp t st op os = some (v, st', ps, os')) (hp : AllP ps) :
    ∃ n, ∀ m, n ≤ m → opStep (runF lp m) t st op = some (v, st') := by
  unfold stepO at h
  split at h
  · split at h <;> cases h
    exact ⟨0, fun m _ => opStep_mono (noCall_le _) ‹_›⟩
  · cases h
    have := hp _ (List.mem_singleton.2 rfl)
    exact ⟨0, fun m _ => OpIs.step this _⟩
  · split at h
    · split at h <;> cases h
      exact callO_sound ‹_› (hp _ (List.mem_singleton.2 rfl))
    · split at h <;> cases h
      exact callOz_sound ‹_› (hp _ (List.mem_singleton.2 rfl))
    · split at h
      · rename_i hf
        split at h <;> cases h
        obtain ⟨n, hn⟩ := callO_sound ‹_› (hp _ (List.mem_singleton.2 rfl))
        exact ⟨n, fun m hm => by simp only [opStep, hf]; exact hn m hm⟩
      · cases h
    · cases h
  · split at h
    · cases h
      exact hp _ (List.mem_singleton.2 rfl)
    · split at h
      · rename_i hf
        cases h
        obtain ⟨n, hn⟩ := hp _ (List.mem_singleton.2 rfl)
        exact ⟨n, fun m hm => by simp only [opStep, hf]; exact hn m hm⟩
      · cases h
    · cases h
  · split at h
    · cases h
      have := hp _ (List.mem_singleton.2 rfl)
      exact ⟨0, fun m _ => by simp only [opStep, this]⟩
    · cases h
  · cases h
def operO (lp : LProg) (t : List LV) (st : List LObj) (o : LOper) (os : Os) : Option (LV × List LObj × List Prop × Os × Bool) :=
  match gdO t o.guard os with
  | some (true, ps, os1) => match stepO lp t st o.op os1 with
    | some (v, st', qs, os2) => some (v, st', ps ++ qs, os2, true)
    | none => none
  | some (false, ps, os1) => some (.tup [], st, ps, os1, false)
  | none => none
theorem allP_append {ps qs : List Prop} (h : AllP (ps ++ qs)) : AllP ps ∧ AllP qs := ⟨fun p hp => h p (List.mem_append_left _ hp), fun p hp => h p (List.mem_append_right _ hp)⟩
theorem operO_sound {lp : LProg} {t : List LV} {st st' : List LObj} {o : LOper} {os os' : Os} {v : LV} {ps : List Prop} {d : Bool} (h : operO lp t st o os = some (v, st', ps, os', d)) (hp : AllP ps) :
    gd t o.guard = some d ∧ ∃ n, ∀ m, n ≤ m → runOp (runF lp m) t st o = some (v, st') := by
  unfold operO at h
  split at h
  · rename_i ps1 os1 hg
    split at h
    · rename_i v' st1 qs os2 hs
      cases h
      obtain ⟨h1, h2⟩ := allP_append hp
      obtain ⟨n, hn⟩ := stepO_sound hs h2
      have := gdO_sound hg h1
      exact ⟨this, n, fun m hm => by unfold runOp; rw [this]; exact hn m hm⟩
    · cases h
  · rename_i ps1 os1 hg
    cases h
    have := gdO_sound hg hp
    exact ⟨this, 0, fun m _ => by unfold runOp; rw [this]⟩
  · cases h
def opsO (lp : LProg) : List LOper → List LV → List LObj → Os → Option (List LV × List LObj × List Prop × Os)
  | [], t, st, os => some (t, st, [], os)
  | o :: r, t, st, os => match operO lp t st o os with
    | some (v, st', ps, os', _) => match opsO lp r (putT t o.dst v) st' os' with
      | some (t', st'', qs, os'') => some (t', st'', ps ++ qs, os'')
      | none => none
    | none => none
theorem opsO_sound {lp : LProg} : ∀ {l : List LOper} {t t' : List LV} {st st' : List LObj} {os os' : Os} {ps : List Prop}, opsO lp l t st os = some (t', st', ps, os') → AllP ps →
    ∃ n, ∀ m, n ≤ m → runOps (runF lp m) l t st = some (t', st')
  | [], t, t', st, st', os, os', ps, h, _ => by simp only [opsO] at h; cases h; exact ⟨0, fun m _ => rfl⟩
  | o :: r, t, t', st, st', os, os', ps, h, hp => by
    simp only [opsO] at h
    split at h
    · rename_i v st1 ps1 os1 d hs
      split at h
      · rename_i t2 st2 qs os2 hr
        cases h
        obtain ⟨h1, h2⟩ := allP_append hp
        obtain ⟨_, n, hn⟩ := operO_sound hs h1
        obtain ⟨k, hk⟩ := opsO_sound hr h2
        exact ⟨max n k, fun m hm => by simp only [runOps, hn m (by omega)]; exact hk m (by omega)⟩
      · cases h
    · cases h
def heldP (st : List LObj) (held : List (DOp × List LV × LV)) : List Prop := held.map fun x => OpIs x.2.1 st x.1.op.op x.2.2 st
theorem heldP_sound {lp : LProg} {m : Nat} {st : List LObj} {held : List (DOp × List LV × LV)} (h : AllP (heldP st held)) (hg : ∀ x ∈ held, gd x.2.1 x.1.op.guard = some true) : heldOk (runF lp m) st held = true := by
  unfold heldOk
  rw [List.all_eq_true]
  intro x hx
  have := h _ (List.mem_map.2 ⟨x, hx, rfl⟩)
  unfold runOp
  rw [hg x hx]
  simp only [OpIs.step this, LV.eqb_refl]
def drawnO (lp : LProg) : List DOp → List (DOp × List LV × LV) → List LV → List LObj → Os → Option (List LV × List LObj × List Prop × Os)
  | [], _, t, st, os => some (t, st, [], os)
  | d :: r, held, t, st, os => match operO lp t st d.op os with
    | none => none
    | some (v, st', ps, os', done) =>
      match d.cls with
      | .h => if pureV d.op.op v then
          match drawnO lp r (if statB t d.op.op || !done then held else (d, t, v) :: held) (putT t d.op.dst v) st' os' with
          | some (t', st'', qs, os'') => some (t', st'', ps ++ qs, os'')
          | none => none
        else none
      | .a => if newOk st st' then
          match drawnO lp r held (putT t d.op.dst v) st' os' with
          | some (t', st'', qs, os'') => some (t', st'', ps ++ heldP st' held ++ qs, os'')
          | none => none
        else none
      | .c => if decide (st.length ≤ st'.length) then
          match drawnO lp r (held.filter fun x => !d.must.contains x.1.idx) (putT t d.op.dst v) st' os' with
          | some (t', st'', qs, os'') => some (t', st'', ps ++ heldP st' (held.filter fun x => !d.must.contains x.1.idx) ++ qs, os'')
          | none => none
        else none
abbrev HeldSub (held heldO : List (DOp × List LV × LV)) : Prop := ∀ x ∈ held, x ∈ heldO ∨ (gd x.2.1 x.1.op.guard = some false ∧ x.2.2 = .tup [])
theorem heldSub_ok {lp : LProg} {m : Nat} {st : List LObj} {held heldO : List (DOp × List LV × LV)} (hs : HeldSub held heldO) (h : AllP (heldP st heldO)) (hg : ∀ x ∈ heldO, gd x.2.1 x.1.op.guard = some true) :
    heldOk (runF lp m) st held = true := by
  unfold heldOk
  rw [List.all_eq_true]
  intro x hx
  rcases hs x hx with hx | ⟨h1, h2⟩
  · have := List.all_eq_true.1 (heldP_sound (lp := lp) (m := m) h hg) x hx
    exact this
  · unfold runOp
    rw [h1, h2]
    rfl
theorem drawnO_sound {lp : LProg} : ∀ {l : List DOp} {heldO : List (DOp × List LV × LV)} {t t' : List LV} {st st' : List LObj} {os os' : Os} {ps : List Prop}, drawnO lp l heldO t st os = some (t', st', ps, os') → AllP ps →
    (∀ x ∈ heldO, gd x.2.1 x.1.op.guard = some true) → ∃ n, ∀ m, n ≤ m → ∀ held, HeldSub held heldO → runDrawn (runF lp m) l held t st = some (t', st')
  | [], heldO, t, t', st, st', os, os', ps, h, _, _ => by simp only [drawnO] at h; cases h; exact ⟨0, fun m _ held _ => rfl⟩
  | d :: r, heldO, t, t', st, st', os, os', ps, h, hp, hg => by
    simp only [drawnO] at h
    split at h
    · cases h
    · rename_i v st1 ps1 os1 done hs
      split at h
      · rename_i hc
        split at h
        · rename_i hpv
          split at h
          · rename_i t2 st2 qs os2 hr
            cases h
            obtain ⟨h1, h2⟩ := allP_append hp
            obtain ⟨hgd, n, hn⟩ := operO_sound hs h1
            obtain ⟨k, hk⟩ := drawnO_sound hr h2 (fun x hx => by
              split at hx
              · exact hg x hx
              · rename_i hst
                rcases List.mem_cons.1 hx with rfl | hx
                · have : done = true := by cases done <;> simp_all
                  rw [this] at hgd; exact hgd
                · exact hg x hx)
            refine ⟨max n k, fun m hm held hsub => ?_⟩
            simp only [runDrawn, hn m (by omega), hc]
            rw [if_pos hpv]
            refine hk m (by omega) _ (fun x hx => ?_)
            split at hx
            · rename_i hst
              rw [if_pos (by simp [hst])]
              exact hsub x hx
            · rename_i hst
              rcases List.mem_cons.1 hx with rfl | hx
              · cases hdn : done with
                | true => rw [if_neg (by simp [hst])]; exact .inl (by simp)
                | false =>
                  rw [hdn] at hgd
                  refine .inr ⟨hgd, ?_⟩
                  have := hn n (Nat.le_refl _)
                  unfold runOp at this
                  rw [hgd] at this
                  cases this; rfl
              · rcases hsub x hx with h | h
                · refine .inl ?_
                  split
                  · exact h
                  · exact List.mem_cons_of_mem _ h
                · exact .inr h
          · cases h
        · cases h
      · rename_i hc
        split at h
        · rename_i hnew
          split at h
          · rename_i t2 st2 qs os2 hr
            cases h
            obtain ⟨h12, h3⟩ := allP_append hp
            obtain ⟨h1, h2⟩ := allP_append h12
            obtain ⟨hgd, n, hn⟩ := operO_sound hs h1
            obtain ⟨k, hk⟩ := drawnO_sound hr h3 hg
            refine ⟨max n k, fun m hm held hsub => ?_⟩
            simp only [runDrawn, hn m (by omega), hc]
            rw [if_pos (by simp only [Bool.and_eq_true]; exact ⟨hnew, heldSub_ok hsub h2 hg⟩)]
            exact hk m (by omega) _ hsub
          · cases h
        · cases h
      · rename_i hc
        split at h
        · rename_i hlen
          split at h
          · rename_i t2 st2 qs os2 hr
            cases h
            obtain ⟨h12, h3⟩ := allP_append hp
            obtain ⟨h1, h2⟩ := allP_append h12
            obtain ⟨hgd, n, hn⟩ := operO_sound hs h1
            have hg' : ∀ x ∈ heldO.filter (fun x => !d.must.contains x.1.idx), gd x.2.1 x.1.op.guard = some true := fun x hx => hg x (List.mem_filter.1 hx).1
            obtain ⟨k, hk⟩ := drawnO_sound hr h3 hg'
            refine ⟨max n k, fun m hm held hsub => ?_⟩
            have hsub' : HeldSub (held.filter fun x => !d.must.contains x.1.idx) (heldO.filter fun x => !d.must.contains x.1.idx) := by
              intro x hx
              obtain ⟨a, b⟩ := List.mem_filter.1 hx
              rcases hsub x a with h | h
              · exact .inl (List.mem_filter.2 ⟨h, b⟩)
              · exact .inr h
            simp only [runDrawn, hn m (by omega), hc]
            rw [if_pos (by simp only [Bool.and_eq_true]; exact ⟨hlen, heldSub_ok hsub' h2 hg'⟩)]
            exact hk m (by omega) _ hsub'
          · cases h
        · cases h
def LoopAt (lp : LProg) (k : Nat) (mask : List Bool) (c : LCode) (t : List LV) (st : List LObj) (r : LOut × List LV × List LObj) : Prop :=
  ∃ n, (match exec (runF lp n) k n c t st with
    | some (.normal, t', st') => exec (runF lp n) k n (.loop mask c) t' st'
    | r => r) = some r
def execO (lp : LProg) (k : Nat) : Nat → LCode → List LV → List LObj → Os → Option (LOut × List LV × List LObj × List Prop × Os)
  | 0, _, _, _, _ => none
  | n + 1, c, t, st, os => match c with
    | .skip => some (.normal, t, st, [], os)
    | .region ops => match opsO lp ops t st os with
      | some (t', st', ps, os') => some (.normal, t', st', ps, os')
      | none => none
    | .drawn ops => match drawnO lp ops [] t st os with
      | some (t', st', ps, os') => some (.normal, t', st', ps, os')
      | none => none
    | .seq a b => match execO lp k n a t st os with
      | some (.normal, t', st', ps, os') => (match execO lp k n b t' st' os' with
        | some (o, t'', st'', qs, os'') => some (o, t'', st'', ps ++ qs, os'')
        | none => none)
      | r => r
    | .cond x a b => match tick os with
      | (some (.b c), os') => (match execO lp k n (if c then a else b) t st os' with
        | some (o, t', st', ps, os'') => some (o, t', st', (x.ev t = .p (.bool c)) :: ps, os'')
        | none => none)
      | (none, os') => (match x.ev t with
        | .p (.bool true) => execO lp k n a t st os'
        | .p (.bool false) => execO lp k n b t st os'
        | _ => none)
      | _ => none
    | .both x a b c => execO lp k n (.seq (.cond x a b) c) t st os
    | .block id mask c => match execO lp k n c t st os with
      | some (.exit i, t', st', ps, os') => if i = id then some (.normal, kill mask t', st', ps, os') else some (.exit i, t', st', ps, os')
      | some (.normal, t', st', ps, os') => some (.normal, kill mask t', st', ps, os')
      | r => r
    | .loop mask c => match tick os with
      | (some (.lp out t' st'), os') => (match gc k (kill mask t) st with
        | some (t0, st0) => some (out, t', st', [LoopAt lp k mask c t0 st0 (out, t', st')], os')
        | none => none)
      | (some (.lg out t' st' t0 st0), os') => some (out, t', st', [gc k (kill mask t) st = some (t0, st0), LoopAt lp k mask c t0 st0 (out, t', st')], os')
      | _ => none
    | .exit id mask => some (.exit id, kill mask t, st, [], os)
    | .ret mask => some (.ret, kill mask t, st, [], os)
    | .fail => none
theorem exec_both {c : CallF} {k m : Nat} {x : LX} {a b d : LCode} {t : List LV} {st : List LObj} {r : LOut × List LV × List LObj} (h : exec c k m (.seq (.cond x a b) d) t st = some r) : exec c k (m + 1) (.both x a b d) t st = some r := by
  cases m with
  | zero => simp [exec] at h
  | succ m =>
    cases m with
    | zero => simp [exec, cont2] at h
    | succ m =>
      show (match x.ev t with
        | .p (.bool true) => cont2 (exec c k (m + 1 + 1) a t st) (exec c k (m + 1 + 1) d)
        | .p (.bool false) => cont2 (exec c k (m + 1 + 1) b t st) (exec c k (m + 1 + 1) d)
        | .anyb => both (cont2 (exec c k (m + 1 + 1) a t st) (exec c k (m + 1 + 1) d)) (cont2 (exec c k (m + 1 + 1) b t st) (exec c k (m + 1 + 1) d))
        | _ => none) = some r
      replace h : cont2 (match x.ev t with
        | .p (.bool true) => exec c k m a t st
        | .p (.bool false) => exec c k m b t st
        | .anyb => both (exec c k m a t st) (exec c k m b t st)
        | _ => none) (exec c k (m + 1) d) = some r := h
      have up : ∀ {lz : LCode} {y}, exec c k m lz t st = some y → cont2 (some y) (exec c k (m + 1) d) = some r → cont2 (exec c k (m + 1 + 1) lz t st) (exec c k (m + 1 + 1) d) = some r := by
        intro lz y h1 h2
        rw [exec_mono (fun _ _ _ _ h => ⟨h, rfl⟩) (show m ≤ m + 1 + 1 by omega) h1]
        obtain ⟨o, t', st'⟩ := y
        cases o with
        | normal => exact exec_mono (fun _ _ _ _ h => ⟨h, rfl⟩) (show m + 1 ≤ m + 1 + 1 by omega) h2
        | _ => exact h2
      split at h
      · rename_i hx
        cases he : exec c k m a t st with
        | none => rw [he] at h; cases h
        | some y => rw [he] at h; (try simp only [hx]); exact up he h
      · rename_i hx
        cases he : exec c k m b t st with
        | none => rw [he] at h; cases h
        | some y => rw [he] at h; (try simp only [hx]); exact up he h
      · rename_i hx
        cases hb : both (exec c k m a t st) (exec c k m b t st) with
        | none => rw [hb] at h; cases h
        | some y =>
          rw [hb] at h
          obtain ⟨e1, e2⟩ := both_eq hb
          try simp only [hx]
          rw [up e1 h, up e2 h]
          exact both_same r
      · cases h
theorem execO_sound {lp : LProg} {k : Nat} : ∀ {n : Nat} {c : LCode} {t t' : List LV} {st st' : List LObj} {os os' : Os} {ps : List Prop} {o : LOut}, execO lp k n c t st os = some (o, t', st', ps, os') → AllP ps →
    Exec lp k c t st (o, t', st')
  | 0, c, t, t', st, st', os, os', ps, o, h, _ => by simp [execO] at h
  | n + 1, c, t, t', st, st', os, os', ps, o, h, hp => by
    cases c with
    | skip => simp only [execO] at h; cases h; exact ⟨1, rfl⟩
    | exit id mask => simp only [execO] at h; cases h; exact ⟨1, rfl⟩
    | ret mask => simp only [execO] at h; cases h; exact ⟨1, rfl⟩
    | fail => simp [execO] at h
    | region ops =>
      simp only [execO] at h
      split at h
      · rename_i t1 st1 ps1 os1 hs
        cases h
        obtain ⟨m, hm⟩ := opsO_sound hs hp
        exact ⟨m + 1, by simp only [exec]; rw [hm (m + 1) (by omega)]⟩
      · cases h
    | drawn ops =>
      simp only [execO] at h
      split at h
      · rename_i t1 st1 ps1 os1 hs
        cases h
        obtain ⟨m, hm⟩ := drawnO_sound hs hp (by simp)
        exact ⟨m + 1, by simp only [exec]; rw [hm (m + 1) (by omega) [] (by simp)]⟩
      · cases h
    | seq a b =>
      simp only [execO] at h
      split at h
      · rename_i t1 st1 ps1 os1 hs
        split at h
        · rename_i o2 t2 st2 ps2 os2 hs2
          cases h
          obtain ⟨h1, h2⟩ := allP_append hp
          obtain ⟨m1, e1⟩ := (execO_sound hs h1).at
          obtain ⟨m2, e2⟩ := (execO_sound hs2 h2).at
          refine ⟨max m1 m2 + 1, ?_⟩
          simp only [exec, cont2]
          rw [exec_mono (runF_mono (by omega)) (Nat.le_refl _) (e1 (max m1 m2) (by omega))]
          exact exec_mono (runF_mono (by omega)) (Nat.le_refl _) (e2 (max m1 m2) (by omega))
        · cases h
      · rename_i r hne
        cases ha : execO lp k n a t st os with
        | none => rw [ha] at h; cases h
        | some x =>
          obtain ⟨o1, t1, st1, ps1, os1⟩ := x
          rw [ha] at h
          cases h
          obtain ⟨m, e⟩ := (execO_sound ha hp).at
          refine ⟨m + 1, ?_⟩
          simp only [exec, cont2]
          rw [exec_mono (runF_mono (by omega)) (Nat.le_refl _) (e m (Nat.le_refl _))]
          cases o with
          | normal => exact absurd ha (hne _ _ _ _)
          | _ => rfl
    | cond x a b =>
      simp only [execO] at h
      split at h
      · rename_i c os1 _
        split at h
        · rename_i o1 t1 st1 ps1 os2 hs
          cases h
          have hx := hp _ (List.mem_cons_self ..)
          obtain ⟨m, e⟩ := (execO_sound hs (fun p hm => hp p (List.mem_cons_of_mem _ hm))).at
          refine ⟨m + 1, ?_⟩
          simp only [exec, hx]
          have := exec_mono (runF_mono (lp := lp) (show m ≤ m + 1 by omega)) (Nat.le_refl _) (e m (Nat.le_refl _))
          cases c <;> exact this
        · cases h
      · split at h
        · rename_i hx
          obtain ⟨m, e⟩ := (execO_sound h hp).at
          refine ⟨m + 1, ?_⟩
          simp only [exec, hx]
          exact exec_mono (runF_mono (by omega)) (Nat.le_refl _) (e m (Nat.le_refl _))
        · rename_i hx
          obtain ⟨m, e⟩ := (execO_sound h hp).at
          refine ⟨m + 1, ?_⟩
          simp only [exec, hx]
          exact exec_mono (runF_mono (by omega)) (Nat.le_refl _) (e m (Nat.le_refl _))
        · cases h
      · cases h
    | both x a b d =>
      simp only [execO] at h
      obtain ⟨m, e⟩ := (execO_sound h hp).at
      exact ⟨m + 1, exec_mono (runF_mono (by omega)) (Nat.le_refl _) (exec_both (e m (Nat.le_refl _)))⟩
    | block id mask a =>
      simp only [execO] at h
      have go : ∀ {o1 t1 st1 ps1 os1}, execO lp k n a t st os = some (o1, t1, st1, ps1, os1) → AllP ps1 → ∃ m, exec (runF lp (m + 1)) k m a t st = some (o1, t1, st1) := by
        intro o1 t1 st1 ps1 os1 hs hp1
        obtain ⟨m, e⟩ := (execO_sound hs hp1).at
        exact ⟨m, exec_mono (runF_mono (by omega)) (Nat.le_refl _) (e m (Nat.le_refl _))⟩
      split at h
      · rename_i i t1 st1 ps1 os1 hs
        split at h
        · rename_i hi
          cases h
          obtain ⟨m, e⟩ := go hs hp
          exact ⟨m + 1, by simp only [exec, e]; rw [if_pos hi]⟩
        · rename_i hi
          cases h
          obtain ⟨m, e⟩ := go hs hp
          exact ⟨m + 1, by simp only [exec, e]; rw [if_neg hi]⟩
      · rename_i t1 st1 ps1 os1 hs
        cases h
        obtain ⟨m, e⟩ := go hs hp
        exact ⟨m + 1, by simp only [exec, e]⟩
      · rename_i r hne1 hne2
        cases ha : execO lp k n a t st os with
        | none => rw [ha] at h; cases h
        | some x =>
          obtain ⟨o1, t1, st1, ps1, os1⟩ := x
          rw [ha] at h
          cases h
          obtain ⟨m, e⟩ := go ha hp
          refine ⟨m + 1, ?_⟩
          simp only [exec, e]
          cases o with
          | normal => exact absurd ha (hne2 _ _ _ _)
          | exit i => exact absurd ha (hne1 _ _ _ _ _)
          | ret => rfl
    | loop mask a =>
      simp only [execO] at h
      split at h
      · rename_i out t1 st1 os1 _
        split at h
        · rename_i t0 st0 hg
          cases h
          obtain ⟨m, hm⟩ := hp _ (List.mem_singleton.2 rfl)
          refine ⟨m + 1, ?_⟩
          simp only [exec, hg]
          cases he : exec (runF lp m) k m a t0 st0 with
          | none => rw [he] at hm; cases hm
          | some x =>
            obtain ⟨o2, t2, st2⟩ := x
            rw [he] at hm
            rw [exec_mono (runF_mono (show m ≤ m + 1 by omega)) (Nat.le_refl _) he]
            cases o2 with
            | normal => exact exec_mono (runF_mono (by omega)) (Nat.le_refl _) hm
            | _ => exact hm
        · cases h
      · cases h
        have hg := hp _ (List.mem_cons_self ..)
        rename_i t0 st0 _
        obtain ⟨m, hm⟩ := hp _ (List.mem_cons_of_mem _ (List.mem_singleton.2 rfl))
        refine ⟨m + 1, ?_⟩
        simp only [exec, hg]
        cases he : exec (runF lp m) k m a t0 st0 with
        | none => rw [he] at hm; cases hm
        | some x =>
          obtain ⟨o2, t2, st2⟩ := x
          rw [he] at hm
          rw [exec_mono (runF_mono (show m ≤ m + 1 by omega)) (Nat.le_refl _) he]
          cases o2 with
          | normal => exact exec_mono (runF_mono (by omega)) (Nat.le_refl _) hm
          | _ => exact hm
      · cases h
end Go.LS
set_option linter.unusedVariables false
set_option linter.unusedSimpArgs false
namespace Go.LS
def Conj : List Prop → Prop
  | [] => True
  | p :: r => p ∧ Conj r
theorem Conj.all : ∀ {ps : List Prop}, Conj ps → AllP ps
  | [], _, p, hp => by cases hp
  | q :: r, h, p, hp => by
    rcases List.mem_cons.1 hp with rfl | hp
    · exact h.1
    · exact h.2.all p hp
def runO (lp : LProg) (N : Nat) (f : FuncId) (args : List LV) (st : List LObj) (os : Os) : Option (LV × List LObj × List Prop) :=
  match lp.summ f with
  | some _ => none
  | none => match lp.fns f with
    | none => none
    | some lf => match execO lp st.length N lf.body (wk (lp.weak f) args ++ List.replicate (lf.ntmps - args.length) .und) st os with
      | some (.exit _, _, _, _, _) => none
      | some (_, t', st', ps, _) => match evRes t' st' lf.results with
        | some vs => match frz (lp.wres f) st' vs with
          | (vs, st') => (match gc st.length vs st' with
            | some (vs', st'') => some (oneRes vs', st'', ps)
            | none => none)
        | none => none
      | none => none
theorem runO_sound {lp : LProg} {N : Nat} {f : FuncId} {args : List LV} {st st' : List LObj} {os : Os} {v : LV} {ps : List Prop} (h : runO lp N f args st os = some (v, st', ps)) (hp : Conj ps) : Runs lp f args st (v, st') := by
  unfold runO at h
  split at h
  · cases h
  · rename_i hsm
    split at h
    · cases h
    · rename_i lf hlf
      split at h
      · cases h
      · rename_i out t1 st1 ps1 os1 hne hex
        split at h
        · rename_i vs hvs
          dsimp only at h
          split at h
          · rename_i vs' st2 hgc
            simp only [Option.some.injEq, Prod.mk.injEq] at h
            obtain ⟨rfl, rfl, rfl⟩ := h
            obtain ⟨n, hn⟩ := execO_sound hex hp.all
            refine ⟨n + 1, ?_⟩
            simp only [runF, hsm, hlf, hn]
            cases out with
            | exit i => exact (hne i rfl).elim
            | normal => simp only [hvs, hgc]
            | ret => simp only [hvs, hgc]
          · cases h
        · cases h
      · cases h
def roundO (lp : LProg) (N k : Nat) (mask : List Bool) (c : LCode) (t : List LV) (st : List LObj) (os : Os) : Option (LOut × List LV × List LObj × List Prop) :=
  match execO lp k N c t st os with
  | some (.normal, t', st', ps, _) => match gc k (kill mask t') st' with
    | some (t'', st'') => some (.normal, t'', st'', ps)
    | none => none
  | some (o, t', st', ps, _) => some (o, t', st', ps)
  | none => none
theorem LoopAt.on {lp : LProg} {N k : Nat} {mask : List Bool} {c : LCode} {t t' : List LV} {st st' : List LObj} {os : Os} {ps : List Prop} {r : LOut × List LV × List LObj}
    (h : roundO lp N k mask c t st os = some (.normal, t', st', ps)) (hp : Conj ps) (hr : LoopAt lp k mask c t' st' r) : LoopAt lp k mask c t st r := by
  unfold roundO at h
  split at h
  · rename_i t1 st1 ps1 os1 hex
    split at h
    · rename_i t2 st2 hg
      simp only [Option.some.injEq, Prod.mk.injEq, true_and] at h
      obtain ⟨rfl, rfl, rfl⟩ := h
      obtain ⟨n, hn⟩ := (execO_sound hex hp.all).at
      obtain ⟨m, hm⟩ := hr
      refine ⟨max n m + 1, ?_⟩
      rw [hn (max n m + 1) (by omega)]
      simp only [exec, hg]
      cases he : exec (runF lp m) k m c t2 st2 with
      | none => rw [he] at hm; cases hm
      | some x =>
        obtain ⟨o2, t3, st3⟩ := x
        rw [he] at hm
        rw [exec_mono (runF_mono (show m ≤ max n m + 1 by omega)) (show m ≤ max n m by omega) he]
        cases o2 with
        | normal => exact exec_mono (runF_mono (by omega)) (by omega) hm
        | _ => exact hm
    · cases h
  · rename_i hne hex
    simp only [Option.some.injEq, Prod.mk.injEq] at h
    obtain ⟨rfl, rfl, rfl, rfl⟩ := h
    exact (hne rfl).elim
  · cases h
theorem LoopAt.out {lp : LProg} {N k : Nat} {mask : List Bool} {c : LCode} {t t' : List LV} {st st' : List LObj} {os : Os} {ps : List Prop} {o : LOut}
    (h : roundO lp N k mask c t st os = some (o, t', st', ps)) (ho : (match o with | .normal => false | _ => true) = true) (hp : Conj ps) : LoopAt lp k mask c t st (o, t', st') := by
  unfold roundO at h
  split at h
  · split at h
    · cases h; cases ho
    · cases h
  · rename_i o1 t1 st1 ps1 os1 hne hex
    simp only [Option.some.injEq, Prod.mk.injEq] at h
    obtain ⟨rfl, rfl, rfl, rfl⟩ := h
    obtain ⟨n, hn⟩ := execO_sound hex hp.all
    refine ⟨n, ?_⟩
    rw [hn]
    cases o1 with
    | normal => cases ho
    | _ => rfl
  · cases h
def loopsOf : LCode → List (List Bool × LCode)
  | .seq a b => loopsOf a ++ loopsOf b
  | .cond _ a b => loopsOf a ++ loopsOf b
  | .both _ a b c => loopsOf a ++ loopsOf b ++ loopsOf c
  | .block _ _ c => loopsOf c
  | .loop m c => (m, c) :: loopsOf c
  | _ => []
def loopNo (lf : LFn) (i : Nat) : List Bool × LCode := (loopsOf lf.body).getD i ([], .skip)
def tl (i : Nat) : Nat → List (Nat × LV) → List LV
  | 0, _ => []
  | n + 1, [] => .und :: tl (i + 1) n []
  | n + 1, (j, v) :: r => match Nat.beq i j with
    | true => v :: tl (i + 1) n r
    | false => .und :: tl (i + 1) n ((j, v) :: r)
abbrev OpW (st : List LObj) (op : LOp) (v : LV) (st' : List LObj) : Prop := opStep noCall [] st op = some (v, st')
abbrev LoopN (lp : LProg) (k : Nat) (x : List Bool × LCode) (t : List LV) (st : List LObj) (r : LOut × List LV × List LObj) : Prop := LoopAt lp k x.1 x.2 t st r
def oO {st st' : List LObj} {op : LOp} {v : LV} (_ : OpW st op v st') : Orc := .op v st'
def oC {lp : LProg} {f : Nat} {as : List LV} {st st' : List LObj} {v : LV} (_ : Runs lp f as st (v, st')) : Orc := .call v st'
def oZ {lp : LProg} {f : Nat} {as : List LV} {st st' : List LObj} {v : LV} (_ : RunsZ lp f as st (v, st')) : Orc := .call v st'
def oL {lp : LProg} {k : Nat} {x : List Bool × LCode} {t t' : List LV} {st st' : List LObj} {o : LOut} (_ : LoopN lp k x t st (o, t', st')) : Orc := .lp o t' st'
theorem cI {b c : Bool} (h : b = c) : LV.p (PV.bool b) = .p (.bool c) := congrArg (fun b => LV.p (PV.bool b)) h
theorem iteT {lp : LProg} {f : FuncId} {a : List LV} {s : List LObj} {c : Bool} {x y : LV × List LObj} (h : Runs lp f a s (if c = true then x else y)) (hc : c = true) : Runs lp f a s x := by rwa [if_pos hc] at h
theorem iteF {lp : LProg} {f : FuncId} {a : List LV} {s : List LObj} {c : Bool} {x y : LV × List LObj} (h : Runs lp f a s (if c = true then x else y)) (hc : c = false) : Runs lp f a s y := by rwa [if_neg (by simp [hc])] at h
theorem infE {k a b : Int} {r : Bool} (h : (k == a) = true) (g : (a == b) = r) : (k == b) = r := by rw [eq_of_beq h]; exact g
theorem infL {k a b : Int} {r : Bool} (h : (k == a) = true) (g : decide (a < b) = r) : decide (k < b) = r := by rw [eq_of_beq h]; exact g
theorem infLe {k a b : Int} {r : Bool} (h : (k == a) = true) (g : decide (a ≤ b) = r) : decide (k ≤ b) = r := by rw [eq_of_beq h]; exact g
theorem infG {k a b : Int} {r : Bool} (h : (k == a) = true) (g : decide (a > b) = r) : decide (k > b) = r := by rw [eq_of_beq h]; exact g
theorem infGe {k a b : Int} {r : Bool} (h : (k == a) = true) (g : decide (a ≥ b) = r) : decide (k ≥ b) = r := by rw [eq_of_beq h]; exact g
theorem notI {b c : Bool} (h : b = c) : (!b) = !c := by rw [h]
end Go.LS
namespace Go.LS
def runE (lp : LProg) (N : Nat) (f : FuncId) (args : List LV) (st : List LObj) (os : Os) : Option (List LV × List LObj × List Prop) :=
  match lp.summ f with
  | some _ => none
  | none => match lp.fns f with
    | none => none
    | some lf => match execO lp st.length N lf.body (wk (lp.weak f) args ++ List.replicate (lf.ntmps - args.length) .und) st os with
      | some (.exit _, _, _, _, _) => none
      | some (_, t', st', ps, _) => match evRes t' st' lf.results with
        | some vs => some (vs, st', ps)
        | none => none
      | none => none
theorem runE_sound {lp : LProg} {N : Nat} {f : FuncId} {args : List LV} {st st1 s1 st2 : List LObj} {os : Os} {vs vs1 vs2 : List LV} {ps : List Prop} (h : runE lp N f args st os = some (vs, st1, ps)) (hp : Conj ps)
    (hf : frz (lp.wres f) st1 vs = (vs1, s1)) (hg : gc st.length vs1 s1 = some (vs2, st2)) : Runs lp f args st (oneRes vs2, st2) := by
  unfold runE at h
  split at h
  · cases h
  · rename_i hsm
    split at h
    · cases h
    · rename_i lf hlf
      split at h
      · cases h
      · rename_i out t1 st1' ps1 os1 hne hex
        split at h
        · rename_i vs' hvs
          simp only [Option.some.injEq, Prod.mk.injEq] at h
          obtain ⟨rfl, rfl, rfl⟩ := h
          obtain ⟨n, hn⟩ := execO_sound hex hp.all
          refine ⟨n + 1, ?_⟩
          simp only [runF, hsm, hlf, hn]
          cases out with
          | exit i => exact (hne i rfl).elim
          | normal => simp only [hvs, hf, hg]
          | ret => simp only [hvs, hf, hg]
        · cases h
      · cases h
def roundE (lp : LProg) (N k : Nat) (mask : List Bool) (c : LCode) (t : List LV) (st : List LObj) (os : Os) : Option (List LV × List LObj × List Prop) :=
  match execO lp k N c t st os with
  | some (.normal, t', st', ps, _) => some (kill mask t', st', ps)
  | _ => none
theorem LoopAt.onS {lp : LProg} {N k : Nat} {mask : List Bool} {c : LCode} {t t1 t' : List LV} {st st1 st' : List LObj} {os : Os} {ps : List Prop} {r : LOut × List LV × List LObj}
    (h : roundE lp N k mask c t st os = some (t1, st1, ps)) (hp : Conj ps) (hg : gc k t1 st1 = some (t', st')) (hr : LoopAt lp k mask c t' st' r) : LoopAt lp k mask c t st r := by
  unfold roundE at h
  split at h
  · rename_i t2 st2 ps1 os1 hex
    simp only [Option.some.injEq, Prod.mk.injEq] at h
    obtain ⟨rfl, rfl, rfl⟩ := h
    obtain ⟨n, hn⟩ := (execO_sound hex hp.all).at
    obtain ⟨m, hm⟩ := hr
    refine ⟨max n m + 1, ?_⟩
    rw [hn (max n m + 1) (by omega)]
    simp only [exec, hg]
    cases he : exec (runF lp m) k m c t' st' with
    | none => rw [he] at hm; cases hm
    | some x =>
      obtain ⟨o2, t3, st3⟩ := x
      rw [he] at hm
      rw [exec_mono (runF_mono (show m ≤ max n m + 1 by omega)) (show m ≤ max n m by omega) he]
      cases o2 with
      | normal => exact exec_mono (runF_mono (by omega)) (by omega) hm
      | _ => exact hm
  · cases h
theorem refs_at {st sh : List LObj} (hr : st.map LObj.refs = sh.map LObj.refs) (o : Nat) : ((st[o]?).getD .dead).refs = ((sh[o]?).getD .dead).refs := by
  have h : (st.map LObj.refs)[o]? = (sh.map LObj.refs)[o]? := by rw [hr]
  rw [List.getElem?_map, List.getElem?_map] at h
  cases h1 : st[o]? with
  | none => cases h2 : sh[o]? with
    | none => rfl
    | some y => rw [h1, h2] at h; cases h
  | some x => cases h2 : sh[o]? with
    | none => rw [h1, h2] at h; cases h
    | some y => rw [h1, h2] at h; simpa using h
theorem reach_sh {st sh : List LObj} (hr : st.map LObj.refs = sh.map LObj.refs) : ∀ (n : Nat) (todo acc : List Nat), reach st n todo acc = reach sh n todo acc := by
  intro n
  induction n with
  | zero => intro todo acc; cases todo <;> rfl
  | succ n ih =>
    intro todo acc
    cases todo with
    | nil => rfl
    | cons o r => simp only [reach, ih, refs_at hr o]
theorem closed_sh {st sh : List LObj} (hr : st.map LObj.refs = sh.map LObj.refs) (ids : List Nat) : closed st ids = closed sh ids := by
  have hl : st.length = sh.length := by have := congrArg List.length hr; simpa using this
  unfold closed
  rw [hl]
  congr 1
  funext o
  rw [refs_at hr o]
def gcSh (k : Nat) (vs : List LV) (st : List LObj) : Option (List LV × List Nat) :=
  let ids := gcIds k st (vs.flatMap LV.refs)
  if closed st ids && (vs.flatMap LV.refs).all (ids.contains ·) && decide ids.Nodup && decide (ids.take k = List.range k) then
    some (vs.map (LV.ren fun q => ids.idxOf q), ids)
  else none
theorem gc_sh {k : Nat} {vs vs' : List LV} {st sh st' : List LObj} {ids : List Nat} (hr : st.map LObj.refs = sh.map LObj.refs) (hc : gcSh k vs sh = some (vs', ids)) (hs : sub st ids = st') : gc k vs st = some (vs', st') := by
  have e : gcIds k st (vs.flatMap LV.refs) = gcIds k sh (vs.flatMap LV.refs) := by
    unfold gcIds
    rw [reach_sh hr]
    congr 2
    have : ∀ l : List LObj, l.flatMap LObj.refs = (l.map LObj.refs).flatten := fun l => by rw [List.flatMap_def]
    rw [this, this, List.map_take, List.map_take, hr]
  unfold gcSh at hc
  unfold gc
  simp only at hc ⊢
  rw [e, closed_sh hr]
  split at hc
  · rename_i h
    rw [if_pos h]
    simp only [Option.some.injEq, Prod.mk.injEq] at hc
    obtain ⟨rfl, h2⟩ := hc
    rw [← h2] at hs
    rw [hs]
  · cases hc
end Go.LS
set_option linter.unusedVariables false
set_option linter.unusedSimpArgs false
namespace Go.LS
theorem unb_byte (b : UInt8) : unb [.int .u8 b.toNat] = some b := by simp [unb]
theorem unbs_bs : ∀ (L : List UInt8), unbs (bs L) = some L
  | [] => rfl
  | b :: r => by
    have := unbs_bs r
    simp only [bs] at this
    simp [bs, unbs, unb_byte, this]
theorem opIs_b2s {v : LV} {L : List UInt8} {st : List LObj} (h : v.asSl = some (bs L)) : opStep noCall [] st (.cv .b2s (.const v)) = some (.p (.str L), st) := by
  have : lcv .b2s v = some (.str L) := by
    cases v <;> simp only [LV.asSl] at h <;> first | (cases h; done) | skip
    case p v =>
      cases v <;> simp only [LV.asSl] at h <;> first | (cases h; done) | skip
      cases h; simp [lcv, LV.asSl, unbs_bs]
    case sl es t f => cases h; simp [lcv, LV.asSl, unbs_bs]
    case tight es => cases h; simp [lcv, LV.asSl, unbs_bs]
  simp [opStep, LX.ev, this]
theorem bs_len (L : List UInt8) : (bs L).length = L.length := by simp [bs]
theorem bs_append (L M : List UInt8) : bs (L ++ M) = bs L ++ bs M := by simp [bs]
theorem bs_sized (L : List UInt8) : sized 1 (bs L) = true := by simp [sized, bs]
theorem bs_empty (M : List UInt8) : (bs M).isEmpty = M.isEmpty := by cases M <;> rfl
theorem byte_bs {e : Int} (h0 : 0 ≤ e) (h1 : e ≤ 255) : [[PV.int .u8 e]] = bs [UInt8.ofNat e.toNat] := by
  simp [bs]
  omega
theorem opIs_appS {str : Bool} {L M : List UInt8} {es : List (List PV)} {t : Nat} {st : List LObj} {x : LV} (hs : st[t]? = some (.spare 1 L.length)) (hx : appended str st x = some es) (he : es = bs M)
    (hl : L.length + M.length ≤ 200000000000000) : opStep noCall [] st (.append str 1 1 (.const (.sl (bs L) t L.length)) (.const x)) = some (.sl (bs (L ++ M)) t (L ++ M).length, st.set t (.spare 1 (L ++ M).length)) := by
  subst he
  refine orA_of ?_
  simp only [LX.ev, lappend, hx, bs_sized, hs, bs_empty, bs_len]
  by_cases hM : M.isEmpty = true
  · have : M = [] := by simpa using hM
    subst this
    simp
    obtain ⟨h1, h2⟩ := List.getElem?_eq_some_iff.1 hs
    conv => rhs; rw [← h2]
    simp
  · simp only [hM]
    simp [bs_append, maxLen, roomy1 hl]
    omega
theorem opIs_appT {str : Bool} {L M : List UInt8} {es es0 : List (List PV)} {st : List LObj} {x : LV} (he0 : es0 = bs L) (hx : appended str st x = some es) (he : es = bs M) (hM : M ≠ [])
    (hl : L.length + M.length ≤ 200000000000000) : opStep noCall [] st (.append str 1 1 (.const (.tight es0)) (.const x)) = some (.sl (bs (L ++ M)) st.length (L ++ M).length, st ++ [.spare 1 (L ++ M).length]) := by
  subst he he0
  have : M.isEmpty = false := by cases M <;> simp_all
  refine orA_of ?_
  simp only [LX.ev, lappend, hx, bs_sized, bs_empty, bs_len, this]
  simp [bs_append, maxLen, roomy1 hl]
  omega
def vcode (u : Nat) : List UInt8 := if u < 128 then [UInt8.ofNat u] else UInt8.ofNat (u % 128 + 128) :: vcode (u / 128)
termination_by u
decreasing_by omega
theorem vcode_len : ∀ (u : Nat), u < 2 ^ 64 → (vcode u).length ≤ 10 := by
  have key : ∀ k u, u < 128 ^ (k + 1) → (vcode u).length ≤ k + 1 := by
    intro k
    induction k with
    | zero => intro u hu; rw [vcode]; simp at hu; simp [hu]
    | succ k ih =>
      intro u hu
      rw [vcode]
      split
      · simp
      · simp only [List.length_cons]
        have := ih (u / 128) (by rw [Nat.div_lt_iff_lt_mul (by omega)]; rw [Nat.pow_succ] at hu; exact hu)
        omega
  intro u hu
  exact key 9 u (Nat.lt_of_lt_of_le hu (by decide))
end Go.LS
namespace Go.LS
theorem wrap_u8_range (n : Int) : 0 ≤ IntKind.wrap .u8 n ∧ IntKind.wrap .u8 n ≤ 255 := by
  simp only [IntKind.wrap, IntKind.bits, IntKind.signed]
  simp
  omega
theorem wrap_u8_bs (n : Int) : [[PV.int .u8 (IntKind.wrap .u8 n)]] = bs [UInt8.ofNat (IntKind.wrap .u8 n).toNat] := byte_bs (wrap_u8_range n).1 (wrap_u8_range n).2
end Go.LS
namespace Go.LS
theorem opIs_s2b {s : List UInt8} {st : List LObj} (h : s.length ≤ 140737488355328) : opStep noCall [] st (.cv .s2b (.const (.p (.str s)))) = some (.p (.sl (bs s)), st) := by
  simp [opStep, LX.ev, lcv, h]
theorem wrap_u64_nat {n : Nat} (h : n < 2 ^ 64) : IntKind.wrap .u64 (n : Int) = (n : Int) := by
  simp only [IntKind.wrap, IntKind.bits, IntKind.signed]
  simp
  omega
theorem wrap_u64 (n : Int) : IntKind.wrap .u64 n = n % 18446744073709551616 := by
  simp only [IntKind.wrap, IntKind.bits, IntKind.signed]
  simp
theorem wrap_i64 {n : Int} (h0 : -9223372036854775808 ≤ n) (h1 : n ≤ 9223372036854775807) : IntKind.wrap .i64 n = n := by
  simp only [IntKind.wrap, IntKind.bits, IntKind.signed]
  simp
  omega
end Go.LS
namespace Go.LS
theorem bs_all (L : List UInt8) (n : Nat) (h : n = 1) : ((bs L).all fun e => e.length == n) = true := by subst h; simp [bs]
theorem bs_take (L : List UInt8) (k : Nat) : bs (L.take k) = (bs L).take k := by simp [bs, List.map_take]
theorem bs_drop (L : List UInt8) (k : Nat) : bs (L.drop k) = (bs L).drop k := by simp [bs, List.map_drop]
theorem opIs_sliceTake {M : List UInt8} {t n k j : Nat} {st : List LObj} (hj : k = j) (hk : k < M.length) :
    opStep noCall [] st (.slice 1 (.const (.sl (bs M) t n)) none (some (.const (.p (.int .i64 ((k : Nat) : Int))))) none) = some (.p (.sl (bs (M.take j))), st) := by
  subst hj
  have h1 : (k : Int) ≤ (M.length : Int) := by omega
  have h2 : ¬ (k = M.length) := by omega
  simp [opStep, LX.ev, rslice, LV.asSl, bs_all, lslice, bnd, bs_len, h1, h2, bs_take]
theorem opIs_sliceAll {M : List UInt8} {t n k : Nat} {st : List LObj} (hj : k = M.length) (hk : 0 < M.length) :
    opStep noCall [] st (.slice 1 (.const (.sl (bs M) t n)) none (some (.const (.p (.int .i64 ((k : Nat) : Int))))) none) = some (.sl (bs M) t n, st) := by
  subst hj
  have h0 : M ≠ [] := by intro h; subst h; simp at hk
  simp [opStep, LX.ev, rslice, LV.asSl, bs_all, lslice, bnd, bs_len, hk, h0]
theorem ofNat8_inj {a b : Nat} (ha : a < 256) (hb : b < 256) (h : UInt8.ofNat a = UInt8.ofNat b) : a = b := by
  have := congrArg UInt8.toNat h
  simp [UInt8.toNat_ofNat'] at this
  omega
theorem vcode_pos (u : Nat) : 0 < (vcode u).length := by rw [vcode]; split <;> simp
theorem vcode_lo {u : Nat} (h : u < 128) : vcode u = [UInt8.ofNat u] := by rw [vcode, if_pos h]
theorem vcode_hi {u : Nat} (h : ¬ u < 128) : vcode u = UInt8.ofNat (u % 128 + 128) :: vcode (u / 128) := by rw [vcode, if_neg h]
theorem vcode_prefix : ∀ (u w : Nat), (vcode w).take (vcode u).length = vcode u → u = w := by
  intro u
  induction u using Nat.strongRecOn with
  | _ u ih =>
    intro w h
    by_cases hu : u < 128 <;> by_cases hw : w < 128
    · rw [vcode_lo hu, vcode_lo hw] at h
      simp only [List.length_cons, List.length_nil, List.take_succ_cons, List.cons.injEq] at h
      exact (ofNat8_inj (by omega) (by omega) h.1).symm
    · rw [vcode_lo hu, vcode_hi hw] at h
      simp only [List.length_cons, List.length_nil, List.take_succ_cons, List.cons.injEq] at h
      have := ofNat8_inj (by omega) (by omega) h.1
      omega
    · rw [vcode_hi hu, vcode_lo hw] at h
      have hp := vcode_pos (u / 128)
      simp only [List.length_cons, List.take_succ_cons, List.cons.injEq, List.take_nil] at h
      rw [← h.2] at hp
      simp at hp
    · rw [vcode_hi hu, vcode_hi hw] at h
      simp only [List.length_cons, List.take_succ_cons, List.cons.injEq] at h
      have h1 := ofNat8_inj (by omega) (by omega) h.1
      have h2 := ih (u / 128) (by omega) (w / 128) h.2
      omega
end Go.LS
namespace Go.LS
theorem opIs_idx {v : LV} {L : List UInt8} {i : Nat} {c : UInt8} {st : List LObj} (hv : v.asSl = some (bs L)) (hr : v.isRs = false) (h : L[i]? = some c) :
    opStep noCall [] st (.indexAddr 1 (.const v) (.const (.p (.int .i64 ((i : Nat) : Int))))) = some (.pin [.int .u8 c.toNat] 0, st) := by
  have hb : (bs L)[i]? = some [.int .u8 c.toNat] := by simp [bs, h]
  have h0 : ¬ ((i : Int) < 0) := by omega
  cases v <;> simp only [LV.isRs, Bool.true_eq_false] at hr <;> simp only [LV.asSl] at hv <;> first | (cases hv; done) | skip
  all_goals simp [opStep, LX.ev, LV.asInt, LV.asSl, hv, hb, h0]
end Go.LS
namespace Go.LS
theorem opIs_sliceFrom {M : List UInt8} {t n k : Nat} {st : List LObj} (hk : k < M.length) :
    opStep noCall [] st (.slice 1 (.const (.sl (bs M) t n)) (some (.const (.p (.int .i64 ((k : Nat) : Int))))) none none) = some (.sl (bs (M.drop k)) t n, st) := by
  have h1 : (k : Int) ≤ (M.length : Int) := by omega
  simp [opStep, LX.ev, rslice, LV.asSl, bs_all, lslice, bnd, bs_len, h1, hk, bs_drop]
theorem opIs_sliceEnd {M : List UInt8} {t n k : Nat} {st : List LObj} (hk : k = M.length) :
    opStep noCall [] st (.slice 1 (.const (.sl (bs M) t n)) (some (.const (.p (.int .i64 ((k : Nat) : Int))))) none none) = some (.p (.sl []), st) := by
  subst hk
  simp [opStep, LX.ev, rslice, LV.asSl, bs_all, lslice, bnd, bs_len]
theorem opIs_idxD {v : LV} {L : List UInt8} {i : Nat} {st : List LObj} (hv : v.asSl = some (bs L)) (hr : v.isRs = false) (h : i < L.length) :
    opStep noCall [] st (.indexAddr 1 (.const v) (.const (.p (.int .i64 ((i : Nat) : Int))))) = some (.pin [.int .u8 ((L.getD i 0).toNat : Int)] 0, st) := by
  rw [opIs_idx hv hr (c := L.getD i 0) (by simp [List.getD, h])]
theorem opIs_idxI {v : LV} {L : List UInt8} {i : Int} {st : List LObj} (hv : v.asSl = some (bs L)) (hr : v.isRs = false) (h0 : 0 ≤ i) (h : i < (L.length : Int)) :
    opStep noCall [] st (.indexAddr 1 (.const v) (.const (.p (.int .i64 i)))) = some (.pin [.int .u8 ((L.getD i.toNat 0).toNat : Int)] 0, st) := by
  obtain ⟨n, rfl⟩ := Int.eq_ofNat_of_zero_le h0
  exact opIs_idxD hv hr (by omega)
theorem bnd_some {y : Nat} {k : IntKind} {n : Int} {d : Nat} (h0 : 0 ≤ n) (h : n ≤ y) : bnd y (some (.p (.int k n))) d = some n.toNat := by simp [bnd, h0, h]
theorem opIs_slicePD {M : List UInt8} {k : IntKind} {lo : Int} {st : List LObj} (h0 : 0 ≤ lo) (h : lo ≤ (M.length : Int)) :
    opStep noCall [] st (.slice 1 (.const (.p (.sl (bs M)))) (some (.const (.p (.int k lo)))) none none) = some (.p (.sl (bs (M.drop lo.toNat))), st) := by
  have e : (bs M).take (bs M).length = bs M := List.take_length
  have e2 : (bs M).take M.length = bs M := by rw [← bs_len M]; exact e
  simp [opStep, LX.ev, rslice, LV.asSl, bs_all, lslice, bnd, bs_len, h0, h, bs_drop, e2]
theorem opIs_slicePT {M : List UInt8} {k : IntKind} {hi : Int} {st : List LObj} (h0 : 0 ≤ hi) (h : hi ≤ (M.length : Int)) :
    opStep noCall [] st (.slice 1 (.const (.p (.sl (bs M)))) none (some (.const (.p (.int k hi)))) none) = some (.p (.sl (bs (M.take hi.toNat))), st) := by
  simp [opStep, LX.ev, rslice, LV.asSl, bs_all, lslice, bnd, bs_len, h0, h, bs_take]
  split
  · rename_i v hv
    split at hv
    · rename_i h1
      cases hv
      rw [h1.1, ← bs_len M, List.take_length]
    · cases hv; rfl
  · rename_i hv; split at hv <;> cases hv
theorem opIs_sliceP2 {M : List UInt8} {k j : IntKind} {lo hi : Int} {st : List LObj} (h0 : 0 ≤ lo) (h1 : lo ≤ hi) (h : hi ≤ (M.length : Int)) :
    opStep noCall [] st (.slice 1 (.const (.p (.sl (bs M)))) (some (.const (.p (.int k lo)))) (some (.const (.p (.int j hi)))) none) = some (.p (.sl (bs ((M.take hi.toNat).drop lo.toNat))), st) := by
  have hh : 0 ≤ hi := by omega
  have hl : lo ≤ ((hi.toNat : Nat) : Int) := by omega
  have hl2 : lo ≤ max hi 0 := by omega
  simp [opStep, LX.ev, rslice, LV.asSl, bs_all, lslice, bnd, bs_len, h0, hh, hl, hl2, h, bs_take, bs_drop]
  split
  · rename_i v hv
    split at hv
    · rename_i h1
      cases hv
      rw [h1.1, ← bs_len M, List.take_length]
    · cases hv; rfl
  · rename_i hv; split at hv <;> cases hv
theorem opIs_sliceStrD {M : List UInt8} {k : IntKind} {lo : Int} {st : List LObj} (h0 : 0 ≤ lo) (h : lo ≤ (M.length : Int)) :
    opStep noCall [] st (.sslice (.const (.p (.str M))) (some (.const (.p (.int k lo)))) none none) = some (.p (.str (M.drop lo.toNat)), st) := by
  simp [opStep, LX.ev, lslice, bnd, h0, h]
theorem opIs_sliceStrT {M : List UInt8} {k : IntKind} {hi : Int} {st : List LObj} (h0 : 0 ≤ hi) (h : hi ≤ (M.length : Int)) :
    opStep noCall [] st (.sslice (.const (.p (.str M))) none (some (.const (.p (.int k hi)))) none) = some (.p (.str (M.take hi.toNat)), st) := by
  simp [opStep, LX.ev, lslice, bnd, h0, h]
theorem opIs_sliceStr2 {M : List UInt8} {k j : IntKind} {lo hi : Int} {st : List LObj} (h0 : 0 ≤ lo) (h1 : lo ≤ hi) (h : hi ≤ (M.length : Int)) :
    opStep noCall [] st (.sslice (.const (.p (.str M))) (some (.const (.p (.int k lo)))) (some (.const (.p (.int j hi)))) none) = some (.p (.str ((M.take hi.toNat).drop lo.toNat)), st) := by
  have hh : 0 ≤ hi := by omega
  have hl : lo ≤ ((hi.toNat : Nat) : Int) := by omega
  have hl2 : lo ≤ max hi 0 := by omega
  simp [opStep, LX.ev, lslice, bnd, h0, hh, hl, hl2, h]
theorem opIs_shl {k j : IntKind} {a b : Int} {st : List LObj} (h : 0 ≤ b) :
    opStep noCall [] st (.bin .shl (.const (.p (.int k a))) (.const (.p (.int j b)))) = some (.p (.int k (IntKind.wrap k (a * 2 ^ min (Int.toNat b) k.bits))), st) := by
  have h0 : ¬ b < 0 := by omega
  simp [opStep, LX.ev, lbin, h0]
theorem iteP {c : Prop} [Decidable c] {a b : Prop} (h : if c then a else b) (k : c) : a := by rwa [if_pos k] at h
theorem iteN {c : Prop} [Decidable c] {a b : Prop} (h : if c then a else b) (k : ¬ c) : b := by rwa [if_neg k] at h
theorem iteRP {lp : LProg} {f : FuncId} {args : List LV} {st : List LObj} {c : Prop} [Decidable c] {a b : LV × List LObj} (k : c) (h : Runs lp f args st a) : Runs lp f args st (if c then a else b) := by rwa [if_pos k]
theorem iteRN {lp : LProg} {f : FuncId} {args : List LV} {st : List LObj} {c : Prop} [Decidable c] {a b : LV × List LObj} (k : ¬ c) (h : Runs lp f args st b) : Runs lp f args st (if c then a else b) := by rwa [if_neg k]
theorem opIs_idxE {v : LV} {E : List (List PV)} {e : List PV} {z : Nat} {i : Nat} {st : List LObj} (hv : v.asSl = some E) (hr : v.isRs = false) (h : E[i]? = some e) (hz : e.length = z) :
    opStep noCall [] st (.indexAddr z (.const v) (.const (.p (.int .i64 ((i : Nat) : Int))))) = some (.pin e 0, st) := by
  have h0 : ¬ ((i : Int) < 0) := by omega
  cases v <;> simp only [LV.isRs, Bool.true_eq_false] at hr <;> simp only [LV.asSl] at hv <;> first | (cases hv; done) | skip
  all_goals simp [opStep, LX.ev, LV.asInt, LV.asSl, hv, h, h0, hz]
theorem wrap_u8_bs4 (a b c d : Int) : [[PV.int .u8 (IntKind.wrap .u8 a)], [PV.int .u8 (IntKind.wrap .u8 b)], [PV.int .u8 (IntKind.wrap .u8 c)], [PV.int .u8 (IntKind.wrap .u8 d)]] =
    bs [UInt8.ofNat (IntKind.wrap .u8 a).toNat, UInt8.ofNat (IntKind.wrap .u8 b).toNat, UInt8.ofNat (IntKind.wrap .u8 c).toNat, UInt8.ofNat (IntKind.wrap .u8 d).toNat] := by
  have h := wrap_u8_bs
  simp only [bs, List.map_cons, List.map_nil, List.cons.injEq, and_true] at h ⊢
  exact ⟨h a, h b, h c, h d⟩
end Go.LS
namespace Go.LS
theorem okBytes : ∀ {es : List (List PV)}, (∀ e ∈ es, okPVs [.int .u8] e) → ∃ b : List UInt8, es = bs b
  | [], _ => ⟨[], rfl⟩
  | e :: r, h => by
    obtain ⟨b, rfl⟩ := okBytes (es := r) (fun x hx => h x (List.mem_cons_of_mem _ hx))
    obtain ⟨_, _, rfl, ⟨n, rfl, h0, h1⟩, rfl⟩ := h e (List.mem_cons_self ..)
    replace h0 : 0 ≤ n := h0
    replace h1 : n ≤ 255 := h1
    refine ⟨UInt8.ofNat n.toNat :: b, ?_⟩
    have := byte_bs h0 h1
    simp only [bs, List.map_cons, List.map_nil, List.cons.injEq] at this
    simp [bs]
    omega
theorem okArg {agg : Bool} {ts : List Cty} {r : List (Bool × List Cty)} {l : List LV} (h : OkArgs ((agg, ts) :: r) l) : ∃ ps m, l = argLV agg ps :: m ∧ okPVs ts ps ∧ OkArgs r m := h
theorem okEnd {l : List LV} (h : OkArgs [] l) : l = [] := h
theorem okI {k : IntKind} {ts : List Cty} {ps : List PV} (h : okPVs (.int k :: ts) ps) : ∃ n r, ps = .int k n :: r ∧ (k.min ≤ n ∧ n ≤ k.max) ∧ okPVs ts r := by
  obtain ⟨_, r, rfl, ⟨n, rfl, h1⟩, h2⟩ := h
  exact ⟨n, r, rfl, h1, h2⟩
theorem okS {ts : List Cty} {ps : List PV} (h : okPVs (.str :: ts) ps) : ∃ n r, ps = .str n :: r ∧ n.length ≤ reachBytes ∧ okPVs ts r := by
  obtain ⟨_, r, rfl, ⟨n, rfl, h1⟩, h2⟩ := h
  exact ⟨n, r, rfl, h1, h2⟩
theorem okB {ts : List Cty} {ps : List PV} (h : okPVs (.bool :: ts) ps) : ∃ n r, ps = .bool n :: r ∧ True ∧ okPVs ts r := by
  obtain ⟨_, r, rfl, ⟨n, rfl⟩, h2⟩ := h
  exact ⟨n, r, rfl, trivial, h2⟩
theorem okSl {u : List Cty} {b : Nat} {ts : List Cty} {ps : List PV} (h : okPVs (.sl u b :: ts) ps) : ∃ n r, ps = .sl n :: r ∧ (n.length * b ≤ reachBytes ∧ n.length ≤ maxLen ∧ ∀ e ∈ n, okPVs u e) ∧ okPVs ts r := by
  obtain ⟨_, r, rfl, ⟨n, rfl, h1⟩, h2⟩ := h
  exact ⟨n, r, rfl, h1, h2⟩
theorem okPr {Q : List PV → Prop} {b : Nat} {ts : List Cty} {ps : List PV} (h : okPVs (.pr Q b :: ts) ps) : ∃ n r, ps = .sl n :: r ∧ (n.length * b ≤ reachBytes ∧ n.length ≤ maxLen ∧ ∀ e ∈ n, Q e) ∧ okPVs ts r := by
  obtain ⟨_, r, rfl, ⟨n, rfl, h1⟩, h2⟩ := h
  exact ⟨n, r, rfl, h1, h2⟩
theorem okNil {ps : List PV} (h : okPVs [] ps) : ps = [] := h
end Go.LS

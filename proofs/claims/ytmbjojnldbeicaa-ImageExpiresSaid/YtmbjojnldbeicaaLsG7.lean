/- A small semantics of loaded Go code that the kernel can run, part 7. -/
import Derived.Test.YtmbjojnldbeicaaLsG6
set_option linter.unusedVariables false
namespace Go.LS
def digsB : List UInt8 → Int → Option Int
  | [], n => some n
  | c :: r, n => if c.toNat < 48 || 57 < c.toNat then none else digsB r (10 * n + ((c.toNat : Int) - 48))
def idxB (s : List UInt8) : Option Int :=
  if s.length < 1 || 3 < s.length || (1 < s.length && (s.getD 0 0).toNat == 48) then none else digsB s 0
theorem decode_ascii4 {s : List UInt8} {i : Nat} (h : (s.getD i 0).toNat < 128) : Utf8.decode ⟨s.toArray⟩ i = ((s.getD i 0).toNat, 1) := by
  have e : (ByteArray.get! ⟨s.toArray⟩ (i + 0)) = s.getD i 0 := by
    show s.toArray[i]! = _
    simp [List.getD]
    rfl
  unfold Utf8.decode
  simp only [e]
  rw [if_pos h]
theorem decode_high4 {s : List UInt8} {i : Nat} (h : ¬ (s.getD i 0).toNat < 128) : 128 ≤ (Utf8.decode ⟨s.toArray⟩ i).1 := by
  have e : (ByteArray.get! ⟨s.toArray⟩ (i + 0)) = s.getD i 0 := by
    show s.toArray[i]! = _
    simp [List.getD]
    rfl
  unfold Utf8.decode
  simp only [e]
  rw [if_neg h]
  repeat' split
  all_goals simp_all [Utf8.runeError, Utf8.valid]
  all_goals omega
theorem ixW32 {n : Int} {c : UInt8} (h0 : 0 ≤ n) (h1 : n ≤ 99) (c0 : ¬ c.toNat < 48) (c1 : ¬ 57 < c.toNat) :
    IntKind.wrap .i64 (IntKind.wrap .i64 (10 * n) + IntKind.wrap .i64 (IntKind.wrap .i32 ((c.toNat : Int) - 48))) = 10 * n + ((c.toNat : Int) - 48) := by
  have e : IntKind.wrap .i32 ((c.toNat : Int) - 48) = (c.toNat : Int) - 48 := by
    simp only [IntKind.wrap, IntKind.bits, IntKind.signed]
    simp
    omega
  rw [e, wrap_i64 (n := (c.toNat : Int) - 48) (by omega) (by omega), wrap_i64 (n := 10 * n) (by omega) (by omega), wrap_i64 (by omega) (by omega)]
theorem ixW8 {n : Int} {c : UInt8} (h0 : 0 ≤ n) (h1 : n ≤ 99) (c0 : ¬ c.toNat < 48) (c1 : ¬ 57 < c.toNat) :
    IntKind.wrap .i64 (IntKind.wrap .i64 (10 * n) + IntKind.wrap .i64 (IntKind.wrap .u8 ((c.toNat : Int) - 48))) = 10 * n + ((c.toNat : Int) - 48) := by
  have e : IntKind.wrap .u8 ((c.toNat : Int) - 48) = (c.toNat : Int) - 48 := by
    simp only [IntKind.wrap, IntKind.bits, IntKind.signed]
    simp
    omega
  rw [e, wrap_i64 (n := (c.toNat : Int) - 48) (by omega) (by omega), wrap_i64 (n := 10 * n) (by omega) (by omega), wrap_i64 (by omega) (by omega)]
theorem digs_pos : ∀ (l : List UInt8) (n r : Int), 0 ≤ n → digsB l n = some r → 0 ≤ r
  | [], n, r, h, e => by simp only [digsB, Option.some.injEq] at e; omega
  | c :: l, n, r, h, e => by
    simp only [digsB] at e
    split at e
    · simp at e
    · rename_i hc
      simp only [Bool.or_eq_true, decide_eq_true_eq, not_or] at hc
      exact digs_pos l _ r (by omega) e
theorem opIs_nextE {s : List UInt8} {i : Nat} {st : List LObj} (hs : st[0]? = some (.siter s i)) (h : ¬ i < s.length) :
    opStep noCall [] st (.next (.const (.it 0))) = some (.tup [.p (.bool false)], st) := by
  simp only [opStep, LX.ev, hs, if_neg h]
theorem opIs_nextA {s : List UInt8} {i : Nat} {st : List LObj} (hs : st[0]? = some (.siter s i)) (h : i < s.length) (ha : (s.getD i 0).toNat < 128) :
    opStep noCall [] st (.next (.const (.it 0))) = some (.tup [.p (.bool true), .p (.int .i64 (i : Int)), .p (.int .i32 ((s.getD i 0).toNat : Int))], st.set 0 (.siter s (i + 1))) := by
  simp only [opStep, LX.ev, hs, if_pos h, decode_ascii4 ha]
theorem opIs_nextH {s : List UInt8} {i : Nat} {st : List LObj} (hs : st[0]? = some (.siter s i)) (h : i < s.length) :
    opStep noCall [] st (.next (.const (.it 0))) = some (.tup [.p (.bool true), .p (.int .i64 (i : Int)), .p (.int .i32 ((Utf8.decode ⟨s.toArray⟩ i).1 : Int))], st.set 0 (.siter s (i + (Utf8.decode ⟨s.toArray⟩ i).2))) := by
  simp only [opStep, LX.ev, hs, if_pos h]
theorem opIs_appNR {tg : Nat} {E X : List (List UInt8)} {st : List LObj} (hs : st[tg]? = some (.spare 1 (List.length (rowsN E)))) (hb : (E.length + X.length) * 16 ≤ 140737488355328) :
    opStep noCall [] st (.append false 1 16 (.const (.sl (rowsN E) tg (List.length (rowsN E)))) (.const (.p (.sl (rowsN X))))) =
      some (.sl (rowsN (E ++ X)) tg (List.length (rowsN (E ++ X))), st.set tg (.spare 1 (List.length (rowsN (E ++ X))))) := by
  have := opIs_appSE (size := 1) (bytes := 16) (tg := tg) (E := rowsN E) (X := rowsN X) (st := st) (x := .p (.sl (rowsN X))) hs rfl (rowsN_sized X)
    (by rw [rowsN_len, rowsN_len]; exact hb) (by rw [rowsN_len, rowsN_len]; omega) (by decide)
  rw [this, rowsN_append]
theorem opIs_appN0 {X : List (List UInt8)} {st : List LObj} (h : decide (X = []) = true) :
    opStep noCall [] st (.append false 1 16 (.const (.tight [])) (.const (.p (.sl (rowsN X))))) = some (.tight [], st) := by
  have h := of_decide_eq_true h
  subst h
  rfl
theorem opIs_appNX {X : List (List UInt8)} {st : List LObj} (h : decide (X = []) = false) (hb : X.length * 16 ≤ 140737488355328) :
    opStep noCall [] st (.append false 1 16 (.const (.tight [])) (.const (.p (.sl (rowsN X))))) = some (.sl (rowsN X) st.length (List.length (rowsN X)), st ++ [.spare 1 (List.length (rowsN X))]) := by
  have h := of_decide_eq_false h
  have := opIs_appTE (size := 1) (bytes := 16) (E := []) (X := rowsN X) (st := st) (x := .p (.sl (rowsN X))) rfl rfl (rowsN_sized X) (fun hh => h (by cases X with | nil => rfl | cons a b => simp [rowsN] at hh)) (by rw [rowsN_len]; simp; omega) (by rw [rowsN_len]; simp; omega) (by decide)
  simpa using this
end Go.LS
set_option linter.unusedVariables false
set_option linter.unusedSimpArgs false
namespace Go.LS
def rowS (es : List (List PV)) : List (List LV) := es.map fun e => e.map LV.p
theorem refs_p (e : List PV) : (e.map LV.p).flatMap LV.refs = [] := by
  induction e with
  | nil => rfl
  | cons a b ih => rw [List.map_cons, List.flatMap_cons, ih]; rfl
theorem rowS_refs (es : List (List PV)) : (LObj.row (rowS es)).refs = [] := by
  simp only [LObj.refs, rowS]
  induction es with
  | nil => rfl
  | cons e r ih => rw [List.map_cons, List.flatMap_cons, ih, refs_p]; rfl
theorem rowS_ren (es : List (List PV)) (f : Nat → Nat) : (LObj.row (rowS es)).ren f = .row (rowS es) := by
  simp only [LObj.ren, rowS, List.map_map]
  congr 1
  apply List.map_congr_left
  intro e _
  simp only [Function.comp, List.map_map]
  apply List.map_congr_left
  intro c _
  rfl
theorem rowS_len (es : List (List PV)) : (rowS es).length = es.length := by simp [rowS]
theorem rowS_get {es : List (List PV)} {i : Nat} {e : List PV} (h : es[i]? = some e) : (rowS es)[i]? = some (e.map .p) := by simp [rowS, h]
theorem rowS_app (a b : List (List PV)) : rowS (a ++ b) = rowS a ++ rowS b := by simp [rowS]
theorem toPVs_p (e : List PV) : toPVs (e.map LV.p) = some e := by
  induction e with
  | nil => rfl
  | cons a b ih => simp only [List.map_cons, toPVs, ih, LV.toPV]
theorem rowS_rowPV : ∀ (es : List (List PV)), rowPV (rowS es) = some es
  | [] => rfl
  | e :: r => by
    have := rowS_rowPV r
    simp only [rowS, List.map_cons] at this ⊢
    simp only [rowPV, toPVs_p, this]
theorem rowS_take (es : List (List PV)) (n : Nat) : (rowS es).take n = rowS (es.take n) := by simp [rowS]
theorem rowS_set (es : List (List PV)) (i : Nat) (e : List PV) : (rowS es).set i (e.map .p) = rowS (es.set i e) := by simp [rowS, List.map_set]
theorem sizedL_rowS {n : Nat} {es : List (List PV)} (h : sized n es = true) : sizedL n (rowS es) = true := by
  simp only [sizedL, rowS, sized, List.all_map] at h ⊢
  rw [List.all_eq_true] at h ⊢
  intro e he
  simpa using h e he
theorem opIs_idxRS {o n k size : Nat} {X : List (List PV)} {e : List PV} {st : List LObj} (hs : st[o]? = some (.row (rowS X))) (hk : k < n) (he : X[k]? = some e) (hz : e.length = size) {j : Int} (hj : j = (k : Int)) :
    opStep noCall [] st (.indexAddr size (.const (.rs o 0 n)) (.const (.p (.int .i64 j)))) = some (.ptr o k 0, st) := by
  subst hj
  have h1 : ¬ ((k : Int) < 0) := by omega
  have h2 : (k : Int) < (n : Int) := by omega
  simp only [opStep, LX.ev, LV.asInt, if_neg h1, if_pos h2, hs, Int.toNat_natCast, Nat.zero_add, rowS_get he, List.length_map, hz, if_true]
theorem opIs_ldRS {o k : Nat} {X : List (List PV)} {x : PV} {st : List LObj} (hs : st[o]? = some (.row (rowS X))) (he : X[k]? = some [x]) :
    opStep noCall [] st (.load false 1 (.const (.ptr o k 0))) = some (.p x, st) := by
  simp only [opStep, LX.ev, LV.ldAt, hs, rowS_get he, List.map_cons, List.map_nil]
  rfl
theorem opIs_stRS {o k : Nat} {X : List (List PV)} {x y : PV} {st : List LObj} (hs : st[o]? = some (.row (rowS X))) (he : X[k]? = some [x]) :
    opStep noCall [] st (.store 1 (.const (.ptr o k 0)) (.const (.p y))) = some (.tup [], st.set o (.row (rowS (X.set k [y])))) := by
  have e := rowS_set X k [y]
  simp only [List.map_cons, List.map_nil] at e
  simp only [opStep, LX.ev, LV.cells?, LV.stAt, hs, rowS_get he, List.map_cons, List.map_nil, List.length_cons, List.length_nil, if_true, Nat.zero_add, Nat.le_refl, List.take_zero, List.nil_append, List.drop_one, List.tail_cons, List.append_nil, e]
theorem opIs_appRS {o n size bytes : Nat} {X Y : List (List PV)} {x : LV} {st : List LObj} (hs : st[o]? = some (.row (rowS X))) (hn : n = X.length) (hx : x.asSl = some Y) (hr : ∀ a b c, x ≠ .rs a b c) (hX : sized size X = true) (hY : sized size Y = true) (hne : Y ≠ []) (h1 : 0 < X.length)
    (hb : (X.length + Y.length) * bytes ≤ 140737488355328) (hm : X.length + Y.length ≤ maxLen) (h0 : 0 < size) :
    opStep noCall [] st (.appendR size bytes (.const (.rs o 0 n)) (.const x)) = some (.rs st.length 0 (X.length + Y.length), st.set o .dead ++ [.row (rowS (X ++ Y))]) := by
  subst hn
  have ha : appendedR st x = some (rowS Y) := by
    cases x <;> simp only [appendedR, hx, rowS]
    rename_i a b c
    exact absurd rfl (hr a b c)
  have hYe : (rowS Y).isEmpty = false := by cases Y with | nil => exact absurd rfl hne | cons a b => rfl
  have hc : X.length = (rowS X).length ∧ 0 < X.length ∧ sizedL size (rowS X) = true ∧ roomy (X.length + (rowS Y).length) bytes = true ∧ X.length + (rowS Y).length ≤ maxLen ∧ 0 < size := by
    refine ⟨(rowS_len X).symm, h1, sizedL_rowS hX, ?_, ?_, h0⟩
    · rw [rowS_len]; exact roomy_of hb
    · rw [rowS_len]; exact hm
  simp only [opStep, LX.ev, rappend, ha, sizedL_rowS hY, Bool.not_true, Bool.false_eq_true, if_false, hs, hYe]
  rw [if_pos hc, rowS_app, rowS_len]
theorem opIs_mkRS {size bytes n : Nat} {z : List PV} {st : List LObj} {c : Int} (hc : c = (n : Int)) (hn : 0 < n) (hb : c * (bytes : Int) ≤ 281474976710656) (hm : c ≤ maxLen) (hz : z.length = size) (h0 : 0 < size) :
    opStep noCall [] st (.mkslice size bytes (z.map .p) (.const (.p (.int .i64 c))) (.const (.p (.int .i64 c)))) = some (.rs st.length 0 n, st ++ [.row (rowS (List.replicate n z))]) := by
  subst hc
  have h1 : ¬ ((n : Int) = 0 ∧ 0 < (n : Int)) := by omega
  have h2 : 0 ≤ (n : Int) ∧ (n : Int) ≤ (n : Int) ∧ (n : Int) * (bytes : Int) ≤ 281474976710656 ∧ (n : Int) ≤ maxLen ∧ (z.map LV.p).length = size ∧ 0 < size := ⟨by omega, by omega, hb, hm, by simp [hz], h0⟩
  simp only [opStep, LX.ev, LV.asInt]
  rw [if_pos h2, if_neg h1]
  simp [rowS]
theorem opIs_sliceRS {o n k size : Nat} {X : List (List PV)} {e : List PV} {st : List LObj} (hs : st[o]? = some (.row (rowS X))) (hk : k ≤ X.length) (hn : n ≤ X.length) (he : X[0]? = some e) (hz : e.length = size) {j : Int} (hj : j = (k : Int)) :
    opStep noCall [] st (.slice size (.const (.rs o 0 n)) none (some (.const (.p (.int .i64 j)))) none) = some (.rs o 0 k, st) := by
  subst hj
  have h0 : 0 < X.length := (List.getElem?_eq_some_iff.1 he).1
  have h1 : 0 ≤ (k : Int) ∧ (k : Int) ≤ (((rowS X).length - 0 : Nat) : Int) := by rw [rowS_len]; omega
  have h2 : (0 : Int) ≤ 0 ∧ (0 : Int) ≤ (k : Int) := by omega
  have h3 : 0 < (rowS X).length - 0 ∧ 0 + n ≤ (rowS X).length := by rw [rowS_len]; omega
  simp only [opStep, LX.ev, rslice, bnd, Option.map_none, Option.map_some, hs]
  rw [if_pos h1]
  simp only [Int.toNat_natCast]
  rw [if_pos h3]
  simp only [rowS_get he, List.length_map, hz, if_true, Nat.add_zero, Nat.sub_zero]
theorem frz_row {o n : Nat} {X X' : List (List PV)} {st : List LObj} (hs : st[o]? = some (.row (rowS X))) (hn : n ≤ X.length) (hx : X.take n = X') : frz true st [.rs o 0 n] = ([.p (.sl X')], st.set o .dead) := by
  subst hx
  have e : ((rowS X).drop 0).take n = rowS (X.take n) := by rw [List.drop_zero, rowS_take]
  have hl : 0 + n ≤ (rowS X).length := by rw [rowS_len]; omega
  simp only [frz, frzL, frz1, frzC, hs, if_pos hl, e, rowS_rowPV]
theorem callAt_pure {lp : LProg} {f : FuncId} {args0 args : List LV} {st st1 st' : List LObj} {r v : LV} (h : Runs lp f args [] (r, st1)) (hw : wk (lp.weak f) args0 = args) (h0 : args.flatMap LV.refs = []) (hr : args.map (LV.ren fun q => ([] : List Nat).idxOf q) = args)
    (hv : r.ren (back [] st.length) = v) (hs : st ++ st1.map (LObj.ren (back [] st.length)) = st') : CallAt lp f args0 st (v, st') := by
  have hk : callO lp f args0 st r st1 = some (v, st', Runs lp f args [] (r, st1)) := by
    unfold callO
    simp only [hw, h0]
    have e1 : reach st 100000 [] [] = [] := rfl
    rw [e1]
    simp only [hr]
    have e2 : sub st [] = [] := rfl
    have e3 : (closed st [] && ([] : List Nat).all (([] : List Nat).contains ·) && decide ([] : List Nat).Nodup) = true := rfl
    rw [if_pos e3, if_pos (show ([] : List Nat).length ≤ st1.length from Nat.zero_le _), e2, hv]
    simp only [List.length_nil, List.take_zero, List.map_nil, putBack, List.drop_zero]
    rw [hs]
  obtain ⟨n, hn⟩ := callO_sound hk h
  exact ⟨n, hn⟩
def oG {lp : LProg} {k : Nat} {x : List Bool × LCode} {t1 t t' : List LV} {st1 st st' : List LObj} {o : LOut} (_ : gc k t1 st1 = some (t, st)) (_ : LoopN lp k x t st (o, t', st')) : Orc := .lg o t' st' t st
def oA {lp : LProg} {f : FuncId} {args : List LV} {st st' : List LObj} {v : LV} (_ : CallAt lp f args st (v, st')) : Orc := .cg v st'
theorem rowsN_at {xs : List (List UInt8)} {i : Nat} {x : List UInt8} (h : xs[i]? = some x) : (rowsN xs)[i]? = some [.str x] := by
  simp only [rowsN, List.getElem?_map, h]; rfl
theorem rowsN_set (xs : List (List UInt8)) (i : Nat) (x : List UInt8) : (rowsN xs).set i [.str x] = rowsN (xs.set i x) := by simp [rowsN, List.map_set]
end Go.LS
namespace Go.LS
theorem frz_names {o : Nat} {xs : List (List UInt8)} {st : List LObj} (hs : st[o]? = some (.row (rowS (rowsN xs)))) : frz true st [.rs o 0 (List.length xs)] = ([.p (.sl (rowsN xs))], st.set o .dead) :=
  frz_row hs (by rw [rowsN_len]; exact Nat.le_refl _) (by rw [← rowsN_len xs]; exact List.take_length)
theorem frz_namesT {o k : Nat} {xs : List (List UInt8)} {st : List LObj} (hs : st[o]? = some (.row (rowS (rowsN xs)))) (hk : k ≤ xs.length) : frz true st [.rs o 0 k] = ([.p (.sl (rowsN (xs.take k)))], st.set o .dead) :=
  frz_row hs (by rw [rowsN_len]; exact hk) (rowsN_take _ _)
theorem opIs_idxN {o n k : Nat} {xs : List (List UInt8)} {st : List LObj} (hs : st[o]? = some (.row (rowS (rowsN xs)))) (hk : k < n) (he : k < xs.length) {j : Int} (hj : j = (k : Int)) :
    opStep noCall [] st (.indexAddr 1 (.const (.rs o 0 n)) (.const (.p (.int .i64 j)))) = some (.ptr o k 0, st) := opIs_idxRS hs hk (rowsN_get he) rfl hj
theorem opIs_ldN {o k : Nat} {xs : List (List UInt8)} {st : List LObj} (hs : st[o]? = some (.row (rowS (rowsN xs)))) (he : k < xs.length) :
    opStep noCall [] st (.load false 1 (.const (.ptr o k 0))) = some (.p (.str (xs.getD k [])), st) := opIs_ldRS hs (rowsN_get he)
theorem opIs_stN {o k : Nat} {xs : List (List UInt8)} {y : List UInt8} {st : List LObj} (hs : st[o]? = some (.row (rowS (rowsN xs)))) (he : k < xs.length) :
    opStep noCall [] st (.store 1 (.const (.ptr o k 0)) (.const (.p (.str y)))) = some (.tup [], st.set o (.row (rowS (rowsN (xs.set k y))))) := by
  rw [← rowsN_set]; exact opIs_stRS hs (rowsN_get he)
theorem opIs_appNS' {o n : Nat} {xs : List (List UInt8)} {y : List UInt8} {st : List LObj} (hs : st[o]? = some (.row (rowS (rowsN xs)))) (hn : n = xs.length) (h1 : 0 < xs.length) (hb : (xs.length + 1) * 16 ≤ 140737488355328) :
    opStep noCall [] st (.appendR 1 16 (.const (.rs o 0 n)) (.const (.tight [[.str y]]))) = some (.rs st.length 0 (xs ++ [y]).length, st.set o .dead ++ [.row (rowS (rowsN (xs ++ [y])))]) := by
  have := opIs_appRS (size := 1) (bytes := 16) (Y := [[.str y]]) (x := .tight [[.str y]]) (n := n) hs (by rw [rowsN_len]; exact hn) rfl (fun a b c h => by cases h) (rowsN_sized xs) rfl (by simp) (by rw [rowsN_len]; exact h1) (by rw [rowsN_len]; simpa using hb) (by rw [rowsN_len]; simp [maxLen]; omega) (by decide)
  rw [this, rowsN_len, rowsN_append]
  simp [rowsN]
theorem opIs_mkN {n : Nat} {st : List LObj} {c : Int} (hc : c = (n : Int)) (hn : 0 < n) (hb : n ≤ 8796093022208) :
    opStep noCall [] st (.mkslice 1 16 [.p (.str [])] (.const (.p (.int .i64 c))) (.const (.p (.int .i64 c)))) = some (.rs st.length 0 n, st ++ [.row (rowS (rowsN (List.replicate n [])))]) := by
  have := opIs_mkRS (size := 1) (bytes := 16) (z := [.str []]) (st := st) hc hn (by omega) (by simp [maxLen]; omega) rfl (by decide)
  have e : rowsN (List.replicate n []) = List.replicate n [PV.str []] := by simp [rowsN]
  rw [e]
  exact this
theorem opIs_sliceN {o n k : Nat} {xs : List (List UInt8)} {st : List LObj} (hs : st[o]? = some (.row (rowS (rowsN xs)))) (hk : k ≤ xs.length) (hn : n ≤ xs.length) (he : 0 < xs.length) {j : Int} (hj : j = (k : Int)) :
    opStep noCall [] st (.slice 1 (.const (.rs o 0 n)) none (some (.const (.p (.int .i64 j)))) none) = some (.rs o 0 k, st) := opIs_sliceRS hs (by rw [rowsN_len]; exact hk) (by rw [rowsN_len]; exact hn) (rowsN_get he) rfl hj
end Go.LS
namespace Go.LS
theorem opIs_appRT {size bytes : Nat} {X : List (List PV)} {st : List LObj} (hX : sized size X = true) (hne : X ≠ []) (hb : X.length * bytes ≤ 140737488355328) (hm : X.length ≤ maxLen) (h0 : 0 < size) :
    opStep noCall [] st (.appendR size bytes (.const (.tight [])) (.const (.p (.sl X)))) = some (.rs st.length 0 X.length, st ++ [.row (rowS X)]) := by
  have ha : appendedR st (.p (.sl X)) = some (rowS X) := rfl
  have hYe : (rowS X).isEmpty = false := by cases X with | nil => exact absurd rfl hne | cons a b => rfl
  have hc : roomy (rowS X).length bytes = true ∧ (rowS X).length ≤ maxLen ∧ 0 < size := ⟨by rw [rowS_len]; exact roomy_of hb, by rw [rowS_len]; exact hm, h0⟩
  simp only [opStep, LX.ev, rappend, ha, sizedL_rowS hX, Bool.not_true, Bool.false_eq_true, if_false, hYe]
  rw [if_pos hc, rowS_len]
def notRs : LV → Bool
  | .rs _ _ _ => false
  | _ => true
theorem frzC_plain (st : List LObj) (v : LV) (h : notRs v = true) : frzC st v = (v.weak1, st) := by cases v <;> first | rfl | simp [notRs] at h
theorem frzCs_plain : ∀ (st : List LObj) (a : List LV), a.all notRs = true → frzCs st a = (a.map LV.weak1, st)
  | st, [], _ => rfl
  | st, v :: r, h => by
    simp only [List.all_cons, Bool.and_eq_true] at h
    simp only [frzCs, frzC_plain st v h.1, frzCs_plain st r h.2, List.map_cons]
theorem frzCs_app (st : List LObj) : ∀ (a b : List LV), frzCs st (a ++ b) = ((frzCs st a).1 ++ (frzCs (frzCs st a).2 b).1, (frzCs (frzCs st a).2 b).2) := by
  intro a
  induction a generalizing st with
  | nil => intro b; rfl
  | cons v r ih => intro b; simp only [List.cons_append, frzCs, ih]
theorem frzC_names {o : Nat} {xs : List (List UInt8)} {st : List LObj} (hs : st[o]? = some (.row (rowS (rowsN xs)))) : frzC st (.rs o 0 (List.length xs)) = (.p (.sl (rowsN xs)), st.set o .dead) := by
  have h := frz_names hs
  simp only [frz, frzL, frz1] at h
  have h1 := congrArg Prod.fst h
  have h2 := congrArg Prod.snd h
  simp only [List.cons.injEq, and_true] at h1
  exact Prod.ext h1 h2
theorem frz_agg1 {o : Nat} {xs : List (List UInt8)} {st : List LObj} {a b : List LV} (ha : a.all notRs = true) (hb : b.all notRs = true) (hs : st[o]? = some (.row (rowS (rowsN xs)))) :
    frz true st [.agg (a ++ .rs o 0 (List.length xs) :: b)] = ([.agg (a.map LV.weak1 ++ .p (.sl (rowsN xs)) :: b.map LV.weak1)], st.set o .dead) := by
  have e : frzCs st (a ++ .rs o 0 (List.length xs) :: b) = (a.map LV.weak1 ++ .p (.sl (rowsN xs)) :: b.map LV.weak1, st.set o .dead) := by
    rw [frzCs_app, frzCs_plain st a ha]
    simp only [frzCs, frzC_names hs, frzCs_plain _ b hb]
  simp only [frz, frzL, frz1, e]
end Go.LS
set_option linter.unusedVariables false
set_option linter.unusedSimpArgs false
namespace Go.LS
theorem frzC_row {o n : Nat} {X : List (List PV)} {st : List LObj} (hs : st[o]? = some (.row (rowS X))) (hn : n = X.length) : frzC st (.rs o 0 n) = (.p (.sl X), st.set o .dead) := by
  subst hn
  have e : ((rowS X).drop 0).take X.length = rowS X := by rw [List.drop_zero, rowS_take, List.take_length]
  have hl : 0 + X.length ≤ (rowS X).length := by rw [rowS_len]; omega
  simp only [frzC, hs, if_pos hl, e, rowS_rowPV]
theorem frzC_rowT {o n : Nat} {X Y : List (List PV)} {st : List LObj} (hs : st[o]? = some (.row (rowS X))) (hn : n ≤ X.length) (hx : X.take n = Y) : frzC st (.rs o 0 n) = (.p (.sl Y), st.set o .dead) := by
  subst hx
  have e : ((rowS X).drop 0).take n = rowS (X.take n) := by rw [List.drop_zero, rowS_take]
  have hl : 0 + n ≤ (rowS X).length := by rw [rowS_len]; omega
  simp only [frzC, hs, if_pos hl, e, rowS_rowPV]
theorem frz_aggX {o n : Nat} {X : List (List PV)} {st : List LObj} {a b : List LV} (ha : a.all notRs = true) (hb : b.all notRs = true) (hs : st[o]? = some (.row (rowS X))) (hn : n = X.length) :
    frz true st [.agg (a ++ .rs o 0 n :: b)] = ([.agg (a.map LV.weak1 ++ .p (.sl X) :: b.map LV.weak1)], st.set o .dead) := by
  have e : frzCs st (a ++ .rs o 0 n :: b) = (a.map LV.weak1 ++ .p (.sl X) :: b.map LV.weak1, st.set o .dead) := by
    rw [frzCs_app, frzCs_plain st a ha]
    simp only [frzCs, frzC_row hs hn, frzCs_plain _ b hb]
  simp only [frz, frzL, frz1, e]
theorem frzV_aggX {o n : Nat} {X : List (List PV)} {st : List LObj} {a b : List LV} (ha : a.all notRs = true) (hb : b.all notRs = true) (hs : st[o]? = some (.row (rowS X))) (hn : n = X.length) :
    frzV st (.agg (a ++ .rs o 0 n :: b)) = (.agg (a.map LV.weak1 ++ .p (.sl X) :: b.map LV.weak1), st.set o .dead) := by
  have e : frzCs st (a ++ .rs o 0 n :: b) = (a.map LV.weak1 ++ .p (.sl X) :: b.map LV.weak1, st.set o .dead) := by
    rw [frzCs_app, frzCs_plain st a ha]
    simp only [frzCs, frzC_row hs hn, frzCs_plain _ b hb]
  simp only [frzV, frz1, e]
theorem frz_agg2X {o n o' n' : Nat} {X Y Y' X' : List (List PV)} {st : List LObj} {a b : List LV} (ha : a.all notRs = true) (hb : b.all notRs = true) (hs : st[o]? = some (.row (rowS X))) (hn : n ≤ X.length) (hX : X.take n = X')
    (hs' : (st.set o .dead)[o']? = some (.row (rowS Y))) (hn' : n' ≤ Y.length) (hY : Y.take n' = Y') :
    frz true st [.agg (a ++ .rs o 0 n :: .rs o' 0 n' :: b)] = ([.agg (a.map LV.weak1 ++ .p (.sl X') :: .p (.sl Y') :: b.map LV.weak1)], (st.set o .dead).set o' .dead) := by
  have e : frzCs st (a ++ .rs o 0 n :: .rs o' 0 n' :: b) = (a.map LV.weak1 ++ .p (.sl X') :: .p (.sl Y') :: b.map LV.weak1, (st.set o .dead).set o' .dead) := by
    rw [frzCs_app, frzCs_plain st a ha]
    simp only [frzCs, frzC_rowT hs hn hX, frzC_rowT hs' hn' hY, frzCs_plain _ b hb]
  simp only [frz, frzL, frz1, e]
theorem callAt_sh {lp : LProg} {f : FuncId} {args0 args args' : List LV} {st sh st1 st' sub' : List LObj} {r v : LV} {ids : List Nat} (hr : st.map LObj.refs = sh.map LObj.refs) (hw : wk (lp.weak f) args0 = args)
    (hi : reach sh 100000 (args.flatMap LV.refs) [] = ids) (hc : (closed sh ids && (args.flatMap LV.refs).all (ids.contains ·) && decide ids.Nodup) = true)
    (ha : args.map (LV.ren fun q => ids.idxOf q) = args') (hs : sub st ids = sub') (h : Runs lp f args' sub' (r, st1)) (hl : decide (ids.length ≤ st1.length) = true) (hv : r.ren (back ids st.length) = v)
    (hp : putBack st ids ((st1.take ids.length).map (LObj.ren (back ids st.length))) ++ (st1.drop ids.length).map (LObj.ren (back ids st.length)) = st') : CallAt lp f args0 st (v, st') := by
  obtain ⟨n, hn⟩ := Runs.at h
  refine ⟨n, fun m hm => ?_⟩
  unfold callIso
  simp only
  rw [runF_weak, hw, reach_sh hr, hi, closed_sh hr, if_pos hc, ha, hs, hn m hm]
  simp only
  rw [if_pos (of_decide_eq_true hl), hv, hp]
section
variable {o n size : Nat} {X : List (List PV)} {st : List LObj}
theorem opIs_lenRS : opStep noCall [] st (.len (.const (.rs o 0 n))) = some (.p (.int .i64 n), st) := rfl
theorem opIs_sliceHi {k : Nat} {j : Int} {e : List PV} (hs : st[o]? = some (.row (rowS X))) (hk : k ≤ X.length) (hn : n ≤ X.length) (he : X[0]? = some e) (hz : e.length = size) (hj : j = (k : Int)) :
    opStep noCall [] st (.slice size (.const (.rs o 0 n)) none (some (.const (.p (.int .i64 j)))) none) = some (.rs o 0 k, st) := opIs_sliceRS hs hk hn he hz hj
theorem opIs_sliceLo {k : Nat} {j : Int} {e : List PV} (hs : st[o]? = some (.row (rowS X))) (hk : k < X.length) (hn : n = X.length) (he : X[0]? = some e) (hz : e.length = size) (hj : j = (k : Int)) :
    opStep noCall [] st (.slice size (.const (.rs o 0 n)) (some (.const (.p (.int .i64 j)))) none none) = some (.rs o k (n - k), st) := by
  subst hj hn
  have h1 : 0 ≤ (k : Int) ∧ (k : Int) ≤ (X.length : Int) := by omega
  have h3 : k < (rowS X).length - 0 ∧ 0 + X.length ≤ (rowS X).length := by rw [rowS_len]; omega
  simp only [opStep, LX.ev, rslice, bnd, Option.map_none, Option.map_some, hs]
  rw [if_pos h1]
  simp only [Int.toNat_natCast]
  rw [if_pos h3]
  simp only [rowS_get he, List.length_map, hz, if_true, Nat.zero_add]
theorem opIs_sliceLo0 {k : Nat} {j : Int} (hs : st[o]? = some (.row (rowS X))) (hk : k = X.length) (hn : n = X.length) (hj : j = (k : Int)) :
    opStep noCall [] st (.slice size (.const (.rs o 0 n)) (some (.const (.p (.int .i64 j)))) none none) = some (.p (.sl []), st) := by
  subst hj hn hk
  have h1 : 0 ≤ (X.length : Int) ∧ (X.length : Int) ≤ (X.length : Int) := by omega
  have h3 : ¬ (X.length < (rowS X).length - 0 ∧ 0 + X.length ≤ (rowS X).length) := by rw [rowS_len]; omega
  have h4 : X.length = (rowS X).length - 0 ∧ 0 + X.length ≤ (rowS X).length := by rw [rowS_len]; omega
  simp only [opStep, LX.ev, rslice, bnd, Option.map_none, Option.map_some, hs]
  rw [if_pos h1]
  simp only [Int.toNat_natCast]
  rw [if_neg h3, if_pos h4]
theorem opIs_sliceLH {k h : Nat} {j i : Int} {e : List PV} (hs : st[o]? = some (.row (rowS X))) (hk : k < X.length) (hkh : k ≤ h) (hh : h ≤ X.length) (hn : n ≤ X.length) (he : X[0]? = some e) (hz : e.length = size) (hj : j = (k : Int)) (hi : i = (h : Int)) :
    opStep noCall [] st (.slice size (.const (.rs o 0 n)) (some (.const (.p (.int .i64 j)))) (some (.const (.p (.int .i64 i)))) none) = some (.rs o k (h - k), st) := by
  subst hj hi
  have h0 : 0 ≤ (h : Int) ∧ (h : Int) ≤ (((rowS X).length - 0 : Nat) : Int) := by rw [rowS_len]; omega
  have h1 : 0 ≤ (k : Int) ∧ (k : Int) ≤ (h : Int) := by omega
  have h3 : k < (rowS X).length - 0 ∧ 0 + n ≤ (rowS X).length := by rw [rowS_len]; omega
  simp only [opStep, LX.ev, rslice, bnd, Option.map_none, Option.map_some, hs]
  rw [if_pos h0]
  simp only [Int.toNat_natCast]
  rw [if_pos h1]
  simp only
  rw [if_pos h3]
  simp only [rowS_get he, List.length_map, hz, if_true, Nat.zero_add]
theorem opIs_slice3 {k h m : Nat} {j i l : Int} (hs : st[o]? = some (.row (rowS X))) (hkh : k ≤ h) (hh : h ≤ m) (hm : m ≤ X.length) (hkm : k < m) (hn : n ≤ X.length) (hj : j = (k : Int)) (hi : i = (h : Int)) (hl : l = (m : Int)) :
    opStep noCall [] st (.slice size (.const (.rs o 0 n)) (some (.const (.p (.int .i64 j)))) (some (.const (.p (.int .i64 i)))) (some (.const (.p (.int .i64 l))))) = some (.und, st) := by
  subst hj hi hl
  have h9 : 0 ≤ (m : Int) ∧ (m : Int) ≤ (((rowS X).length - 0 : Nat) : Int) := by rw [rowS_len]; omega
  have h0 : 0 ≤ (h : Int) ∧ (h : Int) ≤ (m : Int) := by omega
  have h1 : 0 ≤ (k : Int) ∧ (k : Int) ≤ (h : Int) := by omega
  have h3 : ¬ ((some (LV.p (.int .i64 (h : Int)))).isNone = true ∨ ¬ 0 + n ≤ (rowS X).length) := by rw [rowS_len]; simp; omega
  have h4 : ¬ m = k := by omega
  simp only [opStep, LX.ev, rslice, bnd, Option.map_none, Option.map_some, hs]
  rw [if_neg h3, if_pos h9]
  simp only [Int.toNat_natCast]
  rw [if_pos h0]
  simp only
  rw [if_pos h1]
  simp only
  rw [if_neg h4]
theorem opIs_appIn {bytes k j m : Nat} (hs : st[o]? = some (.row (rowS X))) (hk : k < X.length) (hj : j + m = X.length) (hm : 0 < m) (hkj : k + m ≤ X.length) (hX : sized size X = true) (h0 : 0 < size) :
    opStep noCall [] st (.append false size bytes (.const (.rs o 0 k)) (.const (.rs o j m))) = some (.rs o 0 (k + m), st.set o (.row (rowS (X.take k ++ X.drop j ++ X.drop (k + m))))) := by
  have e1 : (rowS X).drop j = rowS (X.drop j) := by simp [rowS]
  have e2 : (rowS (X.drop j)).take m = rowS (X.drop j) := by rw [rowS_take, List.take_of_length_le (by rw [List.length_drop]; omega)]
  have ha : appendedR st (.rs o j m) = some (rowS (X.drop j)) := by
    simp only [appendedR, hs]
    rw [if_pos (by rw [rowS_len]; omega), e1, e2]
  have hl : (rowS (X.drop j)).length = m := by rw [rowS_len, List.length_drop]; omega
  have hz : sizedL size (rowS (X.drop j)) = true := by
    have := sizedL_rowS hX
    unfold sizedL at this ⊢
    rw [List.all_eq_true] at this ⊢
    intro e he
    rw [← e1] at he
    exact this e (List.mem_of_mem_drop he)
  have hne : (rowS (X.drop j)).isEmpty = false := by
    cases hq : rowS (X.drop j) with
    | nil => rw [hq] at hl; simp at hl; omega
    | cons a b => rfl
  have h1 : ¬ (k = (rowS X).length ∧ 0 < k ∧ sizedL size (rowS X) = true ∧ roomy (k + m) bytes = true ∧ k + m ≤ maxLen ∧ 0 < size) := by rw [rowS_len]; omega
  have h2 : k + m ≤ (rowS X).length ∧ sizedL size (rowS X) = true ∧ 0 < size := ⟨by rw [rowS_len]; omega, sizedL_rowS hX, h0⟩
  have e3 : (rowS X).take k ++ rowS (X.drop j) ++ (rowS X).drop (k + m) = rowS (X.take k ++ X.drop j ++ X.drop (k + m)) := by simp [rowS]
  have hla : lappend false size bytes st (.rs o 0 k) (.rs o j m) = none := by simp only [lappend]; split <;> (try split) <;> rfl
  simp only [opStep, LX.ev, hla, orA_none, rappend, ha, hz, Bool.not_true, Bool.false_eq_true, if_false, hs, hne, hl]
  rw [if_neg h1, if_pos h2, e3]
theorem opIs_appIn0 {bytes k : Nat} (hs : st[o]? = some (.row (rowS X))) :
    opStep noCall [] st (.append false size bytes (.const (.rs o 0 k)) (.const (.p (.sl [])))) = some (.rs o 0 k, st) := by
  have hla : lappend false size bytes st (.rs o 0 k) (.p (.sl [])) = none := by simp only [lappend]; split <;> (try split) <;> rfl
  have ha : appendedR st (.p (.sl [])) = some [] := rfl
  simp only [opStep, LX.ev, hla, orA_none, rappend, ha, sizedL, List.all_nil, Bool.not_true, Bool.false_eq_true, if_false, hs, List.isEmpty_nil, if_true]
theorem opIs_clear {z : List PV} {z' : List LV} {k m : Nat} (hz' : z' = z.map .p) (hs : st[o]? = some (.row (rowS X))) (hk : k + m = X.length) (hm : 0 < m) (hX : sized size X = true) (hz : z.length = size) (h0 : 0 < size) :
    opStep noCall [] st (.clearS z' (.const (.rs o k m))) = some (.tup [], st.set o (.row (rowS (X.take k ++ List.replicate m z)))) := by
  subst hz'
  have h1 : ¬ m = 0 := by omega
  have h2 : k + m ≤ (rowS X).length ∧ (rowS X).all (fun e => e.length == (z.map LV.p).length) = true ∧ 0 < (z.map LV.p).length := by
    refine ⟨by rw [rowS_len]; omega, ?_, by simp; omega⟩
    have := sizedL_rowS hX
    simpa [sizedL, hz] using this
  have e3 : (rowS X).take k ++ List.replicate m (z.map LV.p) ++ (rowS X).drop (k + m) = rowS (X.take k ++ List.replicate m z) := by
    rw [hk, ← rowS_len X, List.drop_length]
    simp [rowS]
  simp only [opStep, LX.ev]
  rw [if_neg h1, hs]
  simp only
  rw [if_pos h2, e3]
end
theorem rowsV_take (a : List Val) (n : Nat) : rowsV (a.take n) = (rowsV a).take n := by rw [rowsV_map, rowsV_map, List.map_take]
theorem rowsV_drop (a : List Val) (n : Nat) : rowsV (a.drop n) = (rowsV a).drop n := by rw [rowsV_map, rowsV_map, List.map_drop]
theorem rowsV_set (a : List Val) (i : Nat) (v : Val) : (rowsV a).set i (rowV v) = rowsV (a.set i v) := by rw [rowsV_map, rowsV_map, List.map_set]
theorem rowsV_all5 (a : List Val) : sized 5 (rowsV a) = true := by
  unfold sized
  rw [List.all_eq_true]
  intro e he
  rw [rowsV_map] at he
  obtain ⟨v, _, rfl⟩ := List.mem_map.1 he
  rw [rowV_len]; rfl
theorem opIs_idxVO {o n k : Nat} {is : List Val} {st : List LObj} (hs : st[o]? = some (.row (rowS (rowsV is)))) (hk : k < n) (he : k < is.length) {j : Int} (hj : j = (k : Int)) :
    opStep noCall [] st (.indexAddr 5 (.const (.rs o 0 n)) (.const (.p (.int .i64 j)))) = some (.ptr o k 0, st) :=
  opIs_idxRS hs hk (rowsV_get (List.getElem?_eq_getElem he)) (rowV_len _) hj
theorem opIs_stVO {o i : Nat} {k n : Int} {s : List UInt8} {is : List Val} {ns : List (List UInt8)} {xs : List Val} {st : List LObj} (hs : st[o]? = some (.row (rowS (rowsV xs)))) (he : i < xs.length) :
    opStep noCall [] st (.store 5 (.const (.ptr o i 0)) (.const (.agg [.p (.int .i64 k), .p (.int .i64 n), .p (.str s), .p (.sl (rowsV is)), .p (.sl (rowsN ns))]))) = some (.tup [], st.set o (.row (rowS (rowsV (xs.set i (.mk k n s is ns)))))) := by
  have e := rowS_set (rowsV xs) i (rowV (.mk k n s is ns))
  rw [rowsV_set] at e
  have hl : ((rowV xs[i]).map LV.p).length = 5 := by rw [List.length_map, rowV_len]
  simp only [opStep, LX.ev, LV.cells?, LV.stAt, hs, rowS_get (rowsV_get (List.getElem?_eq_getElem he)), List.length_cons, List.length_nil, if_true, Nat.zero_add]
  rw [if_pos (by rw [hl]; decide)]
  simp only [List.take_zero, List.nil_append]
  rw [← e]
  have e2 : List.drop 5 ((rowV xs[i]).map LV.p) = [] := List.drop_eq_nil_of_le (by rw [hl]; decide)
  simp [rowV, e2]
theorem opIs_appVO {o n : Nat} {xs : List Val} {k m : Int} {s : List UInt8} {is : List Val} {ns : List (List UInt8)} {st : List LObj} (hs : st[o]? = some (.row (rowS (rowsV xs)))) (hn : n = xs.length) (h1 : 0 < xs.length) (hb : (xs.length + 1) * 80 ≤ 140737488355328) :
    opStep noCall [] st (.appendR 5 80 (.const (.rs o 0 n)) (.const (.tight [[.int .i64 k, .int .i64 m, .str s, .sl (rowsV is), .sl (rowsN ns)]]))) = some (.rs st.length 0 (xs ++ [Val.mk k m s is ns]).length, st.set o .dead ++ [.row (rowS (rowsV (xs ++ [Val.mk k m s is ns])))]) := by
  have := opIs_appRS (size := 5) (bytes := 80) (Y := [rowV (.mk k m s is ns)]) (x := .tight [rowV (.mk k m s is ns)]) (n := n) hs (by rw [rowsV_len]; exact hn) rfl (fun a b c h => by cases h) (rowsV_all5 xs) rfl (by simp) (by rw [rowsV_len]; exact h1) (by rw [rowsV_len]; simpa using hb) (by rw [rowsV_len]; simp [maxLen]; omega) (by decide)
  have e : rowsV (xs ++ [Val.mk k m s is ns]) = rowsV xs ++ [rowV (.mk k m s is ns)] := by rw [rowsV_append]; rfl
  rw [e, List.length_append, ← rowsV_len xs]
  exact this
theorem opIs_appVZ {k m : Int} {s : List UInt8} {is : List Val} {ns : List (List UInt8)} {st : List LObj} :
    opStep noCall [] st (.appendR 5 80 (.const (.tight [])) (.const (.tight [[.int .i64 k, .int .i64 m, .str s, .sl (rowsV is), .sl (rowsN ns)]]))) = some (.rs st.length 0 [Val.mk k m s is ns].length, st ++ [.row (rowS (rowsV [.mk k m s is ns]))]) := rfl
theorem opIs_appVX {is : List Val} {st : List LObj} (hne : is ≠ []) (hb : is.length * 80 ≤ 140737488355328) :
    opStep noCall [] st (.appendR 5 80 (.const (.tight [])) (.const (.p (.sl (rowsV is))))) = some (.rs st.length 0 is.length, st ++ [.row (rowS (rowsV is))]) := by
  have := opIs_appRT (size := 5) (bytes := 80) (X := rowsV is) (st := st) (rowsV_all5 is) (by cases is <;> simp_all [rowsV]) (by rw [rowsV_len]; exact hb) (by rw [rowsV_len]; simp [maxLen]; omega) (by decide)
  rw [rowsV_len] at this
  exact this
end Go.LS
namespace Go.LS
def rowZ (i : Nat) (es : List (List PV)) : List (List LV) := List.replicate i [.p (.int .i64 0), .p (.int .i64 0), .p (.str []), .tight [], .tight []] ++ (rowS es).drop i
theorem flat_nil {α β : Type} {f : α → List β} {l : List α} (h : ∀ x ∈ l, f x = []) : l.flatMap f = [] := by
  induction l with
  | nil => rfl
  | cons a r ih => rw [List.flatMap_cons, h a (List.mem_cons_self ..), ih fun x hx => h x (List.mem_cons_of_mem _ hx)]; rfl
theorem rowZ_mem {i : Nat} {es : List (List PV)} {e : List LV} (h : e ∈ rowZ i es) : e = [.p (.int .i64 0), .p (.int .i64 0), .p (.str []), .tight [], .tight []] ∨ ∃ q ∈ es, e = q.map .p := by
  rcases List.mem_append.1 h with h | h
  · exact .inl (List.eq_of_mem_replicate h)
  · have := List.mem_of_mem_drop h
    obtain ⟨q, hq, rfl⟩ := List.mem_map.1 this
    exact .inr ⟨q, hq, rfl⟩
theorem rowZ_refs (i : Nat) (es : List (List PV)) : (LObj.row (rowZ i es)).refs = [] := by
  refine flat_nil fun e he => ?_
  rcases rowZ_mem he with rfl | ⟨q, _, rfl⟩
  · rfl
  · exact refs_p q
theorem rowZ_ren (i : Nat) (es : List (List PV)) (f : Nat → Nat) : (LObj.row (rowZ i es)).ren f = .row (rowZ i es) := by
  simp only [LObj.ren, LObj.row.injEq]
  conv => rhs; rw [← List.map_id (rowZ i es)]
  apply List.map_congr_left
  intro e he
  rcases rowZ_mem he with rfl | ⟨q, _, rfl⟩
  · rfl
  · simp only [List.map_map, id]
    apply List.map_congr_left
    intro c _; rfl
theorem rowZ_0 (es : List (List PV)) : rowZ 0 es = rowS es := by simp [rowZ]
theorem rowZ_at {i : Nat} {es : List (List PV)} {e : List PV} (h : es[i]? = some e) : (rowZ i es)[i]? = some (e.map .p) := by
  rw [rowZ, List.getElem?_append_right (by simp)]
  simp [rowS, h]
theorem rowZ_set {i : Nat} {es : List (List PV)} (h : i < es.length) : (rowZ i es).set i [.p (.int .i64 0), .p (.int .i64 0), .p (.str []), .tight [], .tight []] = rowZ (i + 1) es := by
  rw [rowZ, List.set_append_right _ _ (by simp), List.length_replicate, Nat.sub_self, rowZ, List.replicate_succ', List.append_assoc]
  congr 1
  rw [List.drop_eq_getElem_cons (by rw [rowS_len]; exact h)]
  rfl
theorem opIs_idxZO {o n i : Nat} {is : List Val} {st : List LObj} (hs : st[o]? = some (.row (rowZ i (rowsV is)))) (hk : i < n) (he : i < is.length) :
    opStep noCall [] st (.indexAddr 5 (.const (.rs o 0 n)) (.const (.p (.int .i64 (i : Int))))) = some (.ptr o i 0, st) := by
  have h1 : ¬ ((i : Int) < 0) := by omega
  have h2 : (i : Int) < (n : Int) := by omega
  have h3 := rowZ_at (rowsV_get (List.getElem?_eq_getElem he))
  simp only [opStep, LX.ev, LV.asInt, if_neg h1, if_pos h2, hs, Int.toNat_natCast, Nat.zero_add, h3, List.length_map, rowV_len, if_true]
theorem opIs_stZO {o i : Nat} {is : List Val} {st : List LObj} (hs : st[o]? = some (.row (rowZ i (rowsV is)))) (he : i < is.length) :
    opStep noCall [] st (.store 5 (.const (.ptr o i 0)) (.const (.agg [.p (.int .i64 0), .p (.int .i64 0), .p (.str []), .tight [], .tight []]))) = some (.tup [], st.set o (.row (rowZ (i + 1) (rowsV is)))) := by
  have hl : ((rowV is[i]).map LV.p).length = 5 := by rw [List.length_map, rowV_len]
  have h3 := rowZ_at (rowsV_get (List.getElem?_eq_getElem he))
  have e2 : List.drop 5 ((rowV is[i]).map LV.p) = [] := List.drop_eq_nil_of_le (by rw [hl]; decide)
  simp only [opStep, LX.ev, LV.cells?, LV.stAt, hs, h3, List.length_cons, List.length_nil, if_true, Nat.zero_add]
  rw [if_pos (by rw [hl]; decide)]
  simp only [List.take_zero, List.nil_append, e2, List.append_nil]
  rw [rowZ_set (by rw [rowsV_len]; exact he)]
theorem opIs_appRR {o n size bytes : Nat} {X : List (List PV)} {st : List LObj} (hs : st[o]? = some (.row (rowS X))) (hn : n = X.length) (hX : sized size X = true) (hne : X ≠ []) (hb : X.length * bytes ≤ 140737488355328) (hm : X.length ≤ maxLen) (h0 : 0 < size) :
    opStep noCall [] st (.appendR size bytes (.const (.tight [])) (.const (.rs o 0 n))) = some (.rs st.length 0 n, st ++ [.row (rowS X)]) := by
  subst hn
  have ha : appendedR st (.rs o 0 X.length) = some (rowS X) := by
    simp only [appendedR, hs]
    rw [if_pos (by rw [rowS_len]; omega), List.drop_zero, rowS_take, List.take_length]
  have hYe : (rowS X).isEmpty = false := by cases X with | nil => exact absurd rfl hne | cons a b => rfl
  have hc : roomy (rowS X).length bytes = true ∧ (rowS X).length ≤ maxLen ∧ 0 < size := ⟨by rw [rowS_len]; exact roomy_of hb, by rw [rowS_len]; exact hm, h0⟩
  simp only [opStep, LX.ev, rappend, ha, sizedL_rowS hX, Bool.not_true, Bool.false_eq_true, if_false, hYe]
  rw [if_pos hc, rowS_len]
theorem opIs_appVRR {o n : Nat} {is : List Val} {st : List LObj} (hs : st[o]? = some (.row (rowS (rowsV is)))) (hn : n = is.length) (hne : is ≠ []) (hb : is.length * 80 ≤ 140737488355328) :
    opStep noCall [] st (.appendR 5 80 (.const (.tight [])) (.const (.rs o 0 n))) = some (.rs st.length 0 n, st ++ [.row (rowS (rowsV is))]) :=
  opIs_appRR hs (by rw [rowsV_len]; exact hn) (rowsV_all5 is) (by cases is <;> simp_all [rowsV]) (by rw [rowsV_len]; exact hb) (by rw [rowsV_len]; simp [maxLen]; omega) (by decide)
end Go.LS
set_option linter.unusedVariables false
namespace Go.LS
def idxN (s : List UInt8) : List (List UInt8) → Int → Int
  | [], _ => -1
  | x :: r, i => if s == x then i else idxN s r (i + 1)
def placeV : Val → List UInt8 → Int
  | .mk k _ _ is ns, s => if k == 7 then idxN s ns 0 else if k == 6 then (if Option.getD (idxB s) (-1) < (is.length : Int) then Option.getD (idxB s) (-1) else -1) else -1
theorem idxN_none {s : List UInt8} : ∀ (l : List (List UInt8)) (i : Int), l.contains s = false → idxN s l i = -1
  | [], _, _ => rfl
  | x :: r, i, h => by
    simp only [List.contains_cons, Bool.or_eq_false_iff] at h
    rw [idxN, h.1]
    exact idxN_none r _ h.2
theorem opIs_idxZ {size : Nat} {es : List (List PV)} {e : List PV} {j : Int} {st : List LObj} (h0 : 0 ≤ j) (he : es[Int.toNat j]? = some e) (hz : e.length = size) :
    opStep noCall [] st (.indexAddr size (.const (.p (.sl es))) (.const (.p (.int .i64 j)))) = some (.pin e 0, st) := by
  have h1 : ¬ (j < 0) := by omega
  simp only [opStep, LX.ev, LV.asInt, if_neg h1, LV.asSl, he, hz, if_true]
def itemsV5 : Val → List Val | .mk _ _ _ is _ => is
def getV : List (List UInt8) → Val → Option Val
  | [], v => some v
  | s :: r, v => if placeV v s < 0 then none else match (itemsV5 v)[(placeV v s).toNat]? with
    | some x => getV r x
    | none => none
end Go.LS
namespace Go.LS
def kindV : Val → Int | .mk k _ _ _ _ => k
def zeroV : Val := .mk 0 0 [] [] []
def gtV (v : Val) (ps : List (List UInt8)) (p : Bool) : Option Val := if (kindV v == 7 && p) = true then getV ps v else none
end Go.LS
namespace Go.LS
def docV (v : Val) : Bool := kindV v == 7 && mayV v
end Go.LS
namespace Go.LS
def kV : Val → Int | .mk k _ _ _ _ => k
def nV : Val → Int | .mk _ n _ _ _ => n
def sV : Val → List UInt8 | .mk _ _ s _ _ => s
def iV : Val → List Val | .mk _ _ _ i _ => i
def mV : Val → List (List UInt8) | .mk _ _ _ _ m => m
def chkV (v : Val) (ps : List (List UInt8)) (p : Bool) : Int := if docV v = true then (if p = true then 0 else 40) else 20
end Go.LS
set_option linter.unusedVariables false
set_option linter.unusedSimpArgs false
namespace Go.LS
def ringE : Option Val → List LV
  | none => [.p (.bool false), .p (.int .i64 0), .p (.int .i64 0), .p (.str []), .tight [], .tight []]
  | some (.mk k n s is ns) => [.p (.bool true), .p (.int .i64 k), .p (.int .i64 n), .p (.str s), .p (.sl (rowsV is)), .p (.sl (rowsN ns))]
def ringS (R : List (Option Val)) : List (List LV) := R.map ringE
theorem ringE_refs (o : Option Val) : (ringE o).flatMap LV.refs = [] := by
  cases o with
  | none => rfl
  | some v => obtain ⟨k, n, s, is, ns⟩ := v; rfl
theorem ringE_len (o : Option Val) : (ringE o).length = 6 := by
  cases o with
  | none => rfl
  | some v => obtain ⟨k, n, s, is, ns⟩ := v; rfl
theorem ringE_ren (o : Option Val) (f : Nat → Nat) : (ringE o).map (LV.ren f) = ringE o := by
  cases o with
  | none => rfl
  | some v => obtain ⟨k, n, s, is, ns⟩ := v; rfl
theorem ringS_refs (R : List (Option Val)) : (LObj.row (ringS R)).refs = [] := by
  refine flat_nil fun e he => ?_
  obtain ⟨o, _, rfl⟩ := List.mem_map.1 he
  exact ringE_refs o
theorem ringS_ren (R : List (Option Val)) (f : Nat → Nat) : (LObj.row (ringS R)).ren f = .row (ringS R) := by
  simp only [LObj.ren, LObj.row.injEq, ringS, List.map_map]
  exact List.map_congr_left fun o _ => ringE_ren o f
def wI (x m : Int) : Bool := decide (x ≥ 0) && decide (x ≤ m)
def putR (kp t : Int) (R : List (Option Val)) (x : Option Val) : List (Option Val) := if kp > 0 then R.set (Int.toNat (Int.tmod (t + 1) kp)) x else R
theorem ringS_len (R : List (Option Val)) : (ringS R).length = R.length := by simp [ringS]
theorem ringS_get {R : List (Option Val)} {i : Nat} {o : Option Val} (h : R[i]? = some o) : (ringS R)[i]? = some (ringE o) := by simp [ringS, h]
theorem sizedL_ring (R : List (Option Val)) : sizedL 6 (ringS R) = true := by
  simp only [sizedL, ringS, List.all_map]
  rw [List.all_eq_true]
  intro o _
  simp [ringE_len]
theorem opIs_idxRing {o n k : Nat} {R : List (Option Val)} {st : List LObj} (hs : st[o]? = some (.row (ringS R))) (hk : k < n) (he : k < R.length) {j : Int} (hj : j = (k : Int)) :
    opStep noCall [] st (.indexAddr 6 (.const (.rs o 0 n)) (.const (.p (.int .i64 j)))) = some (.ptr o k 0, st) := by
  subst hj
  have h1 : ¬ ((k : Int) < 0) := by omega
  have h2 : (k : Int) < (n : Int) := by omega
  simp only [opStep, LX.ev, LV.asInt, if_neg h1, if_pos h2, hs, Int.toNat_natCast, Nat.zero_add, ringS_get (List.getElem?_eq_getElem he), ringE_len, if_true]
theorem opIs_ldRing {o k : Nat} {R : List (Option Val)} {x : Option Val} {st : List LObj} (hs : st[o]? = some (.row (ringS R))) (he : R[k]? = some x) :
    opStep noCall [] st (.load true 6 (.const (.ptr o k 0))) = some (.agg (ringE x), st) := by
  have hl := ringE_len x
  simp only [opStep, LX.ev, LV.ldAt, hs, ringS_get he]
  rw [if_pos (by omega)]
  simp only [List.drop_zero, ofCells, if_true]
  rw [List.take_of_length_le (by omega)]
def ringAt (R : List (Option Val)) (k : Nat) : Option Val := R.getD k none
theorem ringAt_get {R : List (Option Val)} {k : Nat} (h : k < R.length) : R[k]? = some (ringAt R k) := by simp [ringAt, h]
theorem opIs_ldRN {o k : Nat} {R : List (Option Val)} {st : List LObj} (hs : st[o]? = some (.row (ringS R))) (he : k < R.length) (hn : (ringAt R k).isSome = false) :
    opStep noCall [] st (.load true 6 (.const (.ptr o k 0))) = some (.agg [.p (.bool false), .p (.int .i64 0), .p (.int .i64 0), .p (.str []), .tight [], .tight []], st) := by
  have h := ringAt_get he
  cases hq : ringAt R k with
  | some v => rw [hq] at hn; cases hn
  | none => rw [hq] at h; exact opIs_ldRing hs h
theorem opIs_ldRV {o k : Nat} {R : List (Option Val)} {st : List LObj} (hs : st[o]? = some (.row (ringS R))) (he : k < R.length) (hn : (ringAt R k).isSome = true) :
    opStep noCall [] st (.load true 6 (.const (.ptr o k 0))) = some (.agg [.p (.bool true), .p (.int .i64 (kV ((ringAt R k).getD zeroV))), .p (.int .i64 (nV ((ringAt R k).getD zeroV))), .p (.str (sV ((ringAt R k).getD zeroV))), .p (.sl (rowsV (iV ((ringAt R k).getD zeroV)))), .p (.sl (rowsN (mV ((ringAt R k).getD zeroV))))], st) := by
  have h := ringAt_get he
  cases hq : ringAt R k with
  | none => rw [hq] at hn; cases hn
  | some v =>
    rw [hq] at h
    have := opIs_ldRing hs h
    obtain ⟨a, b, c, d, e⟩ := v
    exact this
theorem ringS_set (R : List (Option Val)) (k : Nat) (x : Option Val) : (ringS R).set k (ringE x) = ringS (R.set k x) := by simp [ringS, List.map_set]
theorem opIs_stRing {o k : Nat} {R : List (Option Val)} {x : Option Val} {st : List LObj} (hs : st[o]? = some (.row (ringS R))) (he : k < R.length) :
    opStep noCall [] st (.store 6 (.const (.ptr o k 0)) (.const (.agg (ringE x)))) = some (.tup [], st.set o (.row (ringS (R.set k x)))) := by
  have hl := ringE_len x
  have hl2 := ringE_len R[k]
  simp only [opStep, LX.ev, LV.cells?, hl, if_true, LV.stAt, hs, ringS_get (List.getElem?_eq_getElem he)]
  rw [if_pos (by omega)]
  simp only [List.take_zero, List.nil_append, Nat.zero_add]
  rw [List.drop_eq_nil_of_le (by omega), List.append_nil, ringS_set]
theorem opIs_mkRing {st : List LObj} {c : Int} (h : 0 ≤ c) (h2 : c ≤ 1000000) :
    opStep noCall [] st (.mkslice 6 88 [.p (.bool false), .p (.int .i64 0), .p (.int .i64 0), .p (.str []), .tight [], .tight []] (.const (.p (.int .i64 c))) (.const (.p (.int .i64 c)))) = some (.rs st.length 0 (Int.toNat c), st ++ [.row (ringS (List.replicate (Int.toNat c) none))]) := by
  have h1 : ¬ (c = 0 ∧ 0 < c) := by omega
  have h3 : 0 ≤ c ∧ c ≤ c ∧ c * (88 : Nat) ≤ 281474976710656 ∧ c ≤ maxLen ∧ [LV.p (.bool false), .p (.int .i64 0), .p (.int .i64 0), .p (.str []), .tight [], .tight []].length = 6 ∧ 0 < 6 := ⟨h, by omega, by omega, by simp [maxLen]; omega, rfl, by decide⟩
  simp only [opStep, LX.ev, LV.asInt]
  rw [if_pos h3, if_neg h1]
  simp only [ringS, List.map_replicate, if_true]
  rfl
theorem opIs_remI {x y : Int} {st : List LObj} (h : y ≠ 0) : opStep noCall [] st (.bin .rem (.const (.p (.int .i64 x))) (.const (.p (.int .i64 y)))) = some (.p (.int .i64 (Int.tmod x y)), st) := by
  simp only [opStep, LX.ev, lbin, ibin]
  simp [h]
def leastI (kp b t : Int) : Int := (if t - kp > b then t - kp else b) + 1
def getI (kp b t : Int) (R : List (Option Val)) (i : Int) : Val × Int × Int :=
  if i < 1 ∨ i > t then (zeroV, 0, 4) else if i < leastI kp b t then (zeroV, 3, 0) else
    match ringAt R (Int.toNat (Int.tmod i kp)) with
    | some v => (v, 2, 0)
    | none => (zeroV, 1, 0)
theorem opIs_appRing {o n : Nat} {R : List (Option Val)} {st : List LObj} (hs : st[o]? = some (.row (ringS R))) (hn : n = R.length) (h0 : 0 < n) (hb : n ≤ 1000000) :
    opStep noCall [] st (.appendR 6 88 (.const (.tight [])) (.const (.rs o 0 n))) = some (.rs st.length 0 n, st ++ [.row (ringS R)]) := by
  subst hn
  have ha : appendedR st (.rs o 0 R.length) = some (ringS R) := by
    simp only [appendedR, hs]
    rw [if_pos (by rw [ringS_len]; omega), List.drop_zero, List.take_of_length_le (by rw [ringS_len]; exact Nat.le_refl _)]
  have hYe : (ringS R).isEmpty = false := by cases R with | nil => simp at h0 | cons a b => rfl
  have hc : roomy (ringS R).length 88 = true ∧ (ringS R).length ≤ maxLen ∧ 0 < 6 := ⟨by rw [ringS_len]; exact roomy_of (by omega), by rw [ringS_len]; simp [maxLen]; omega, by decide⟩
  simp only [opStep, LX.ev, rappend, ha, sizedL_ring, Bool.not_true, Bool.false_eq_true, if_false, hYe]
  rw [if_pos hc, ringS_len]
theorem opIs_appRing0 {o : Nat} {R : List (Option Val)} {st : List LObj} (hs : st[o]? = some (.row (ringS R))) (hn : R.length = 0) :
    opStep noCall [] st (.appendR 6 88 (.const (.tight [])) (.const (.rs o 0 0))) = some (.tight [], st) := by
  have e : R = [] := List.length_eq_zero_iff.1 hn
  subst e
  have ha : appendedR st (.rs o 0 0) = some [] := by simp only [appendedR, hs]; rfl
  simp only [opStep, LX.ev, rappend, ha]
  rfl
end Go.LS
set_option linter.unusedVariables false
set_option linter.unusedSimpArgs false
namespace Go.LS
theorem opIs_clip {size : Nat} {E : List (List PV)} {st : List LObj} (hE : sized size E = true) :
    opStep noCall [] st (.slice size (.const (.p (.sl E))) none (some (.const (.p (.int .i64 ((E.length : Nat) : Int))))) (some (.const (.p (.int .i64 ((E.length : Nat) : Int)))))) = some (.tight E, st) := by
  have hall : (E.all fun e => e.length == size) = true := hE
  simp [opStep, LX.ev, rslice, LV.asSl, hall, lslice, bnd]
theorem opIs_takeE {size n : Nat} {E : List (List PV)} {j : Int} {st : List LObj} (hE : sized size E = true) (h : n ≤ E.length) (hj : j = (n : Int)) :
    opStep noCall [] st (.slice size (.const (.p (.sl E))) none (some (.const (.p (.int .i64 j)))) none) = some (.p (.sl (E.take n)), st) := by
  subst hj
  have hall : (E.all fun e => e.length == size) = true := hE
  have e1 : rslice size st (.p (.sl E)) none (some (.p (.int .i64 (n : Int)))) none = some (.p (.sl (E.take n))) := by
    simp only [rslice, LV.asSl, hall, if_true, lslice, bnd, Option.isSome_none, Bool.false_eq_true, false_and, if_false, Option.isNone_some]
    rw [if_pos (by omega)]
    simp only [Int.toNat_natCast, List.drop_zero, Option.isNone_none, true_and]
    by_cases hn : n = E.length ∧ 0 < E.length
    · rw [if_pos hn, hn.1, List.take_length]
    · rw [if_neg hn]
  simp only [opStep, LX.ev, Option.map_none, Option.map_some, e1]
theorem opIs_dropE {size n : Nat} {E : List (List PV)} {j : Int} {st : List LObj} (hE : sized size E = true) (h : n ≤ E.length) (hj : j = (n : Int)) :
    opStep noCall [] st (.slice size (.const (.p (.sl E))) (some (.const (.p (.int .i64 j)))) none none) = some (.p (.sl (E.drop n)), st) := by
  subst hj
  have hall : (E.all fun e => e.length == size) = true := hE
  have e1 : rslice size st (.p (.sl E)) (some (.p (.int .i64 (n : Int)))) none none = some (.p (.sl (E.drop n))) := by
    simp only [rslice, LV.asSl, hall, if_true, lslice, bnd, Option.isSome_none, Bool.false_eq_true, false_and, if_false, Option.isNone_none, true_and]
    rw [if_pos (by omega)]
    simp only [Int.toNat_natCast, List.take_length]
    by_cases hn : n < E.length
    · rw [if_pos hn]
    · rw [if_neg hn]
  simp only [opStep, LX.ev, Option.map_none, Option.map_some, e1]
theorem opIs_takeV {n : Nat} {is : List Val} {j : Int} {st : List LObj} (h : n ≤ is.length) (hj : j = (n : Int)) :
    opStep noCall [] st (.slice 5 (.const (.p (.sl (rowsV is)))) none (some (.const (.p (.int .i64 j)))) none) = some (.p (.sl (rowsV (is.take n))), st) := by
  rw [rowsV_take]; exact opIs_takeE (rowsV_all5 is) (by rw [rowsV_len]; exact h) hj
theorem opIs_dropV {n : Nat} {is : List Val} {j : Int} {st : List LObj} (h : n ≤ is.length) (hj : j = (n : Int)) :
    opStep noCall [] st (.slice 5 (.const (.p (.sl (rowsV is)))) (some (.const (.p (.int .i64 j)))) none none) = some (.p (.sl (rowsV (is.drop n))), st) := by
  rw [rowsV_drop]; exact opIs_dropE (rowsV_all5 is) (by rw [rowsV_len]; exact h) hj
theorem rowsN_drop (n : Nat) (ms : List (List UInt8)) : (rowsN ms).drop n = rowsN (ms.drop n) := by simp [rowsN, List.map_drop]
theorem opIs_takeN {n : Nat} {ns : List (List UInt8)} {j : Int} {st : List LObj} (h : n ≤ ns.length) (hj : j = (n : Int)) :
    opStep noCall [] st (.slice 1 (.const (.p (.sl (rowsN ns)))) none (some (.const (.p (.int .i64 j)))) none) = some (.p (.sl (rowsN (ns.take n))), st) := by
  rw [← rowsN_take]; exact opIs_takeE (rowsN_sized ns) (by rw [rowsN_len]; exact h) hj
theorem opIs_dropN {n : Nat} {ns : List (List UInt8)} {j : Int} {st : List LObj} (h : n ≤ ns.length) (hj : j = (n : Int)) :
    opStep noCall [] st (.slice 1 (.const (.p (.sl (rowsN ns)))) (some (.const (.p (.int .i64 j)))) none none) = some (.p (.sl (rowsN (ns.drop n))), st) := by
  rw [← rowsN_drop]; exact opIs_dropE (rowsN_sized ns) (by rw [rowsN_len]; exact h) hj
theorem opIs_tailN {p : List UInt8} {r : List (List UInt8)} {st : List LObj} :
    opStep noCall [] st (.slice 1 (.const (.p (.sl (rowsN (p :: r))))) (some (.const (.p (.int .i64 1)))) none none) = some (.p (.sl (rowsN r)), st) :=
  opIs_dropN (ns := p :: r) (n := 1) (by simp) rfl
theorem lenN0 {p : List UInt8} {r : List (List UInt8)} : (((List.length (rowsN (p :: r)) : Nat) : Int) == 0) = false := by
  rw [rowsN_len, beq_eq_false_iff_ne]; simp only [List.length_cons]; omega
theorem nlt0 {i : Nat} : decide ((i : Int) < 0) = false := by rw [decide_eq_false_iff_not]; omega
theorem opIs_idxP0 {p : List UInt8} {r : List (List UInt8)} {st : List LObj} :
    opStep noCall [] st (.indexAddr 1 (.const (.p (.sl (rowsN (p :: r))))) (.const (.p (.int .i64 0)))) = some (.pin [.str p] 0, st) := rfl
theorem opIs_appVR {tg : Nat} {E X : List Val} {st : List LObj} (hs : st[tg]? = some (.spare 5 (List.length (rowsV E)))) (hb : (E.length + X.length) * 80 ≤ 140737488355328) :
    opStep noCall [] st (.append false 5 80 (.const (.sl (rowsV E) tg (List.length (rowsV E)))) (.const (.p (.sl (rowsV X))))) =
      some (.sl (rowsV (E ++ X)) tg (List.length (rowsV (E ++ X))), st.set tg (.spare 5 (List.length (rowsV (E ++ X))))) := by
  have := opIs_appSE (size := 5) (bytes := 80) (tg := tg) (E := rowsV E) (X := rowsV X) (st := st) (x := .p (.sl (rowsV X))) hs rfl (rowsV_all5 X)
    (by rw [rowsV_len, rowsV_len]; exact hb) (by rw [rowsV_len, rowsV_len]; omega) (by decide)
  rw [this, rowsV_append]
theorem opIs_appV0 {X : List Val} {st : List LObj} (h : decide (X = []) = true) :
    opStep noCall [] st (.append false 5 80 (.const (.tight [])) (.const (.p (.sl (rowsV X))))) = some (.tight [], st) := by
  have h := of_decide_eq_true h
  subst h
  rfl
theorem opIs_appVN {X : List Val} {st : List LObj} (h : decide (X = []) = false) (hb : X.length * 80 ≤ 140737488355328) :
    opStep noCall [] st (.append false 5 80 (.const (.tight [])) (.const (.p (.sl (rowsV X))))) = some (.sl (rowsV X) st.length (List.length (rowsV X)), st ++ [.spare 5 (List.length (rowsV X))]) := by
  have h := of_decide_eq_false h
  have := opIs_appTE (size := 5) (bytes := 80) (E := []) (X := rowsV X) (st := st) (x := .p (.sl (rowsV X))) rfl rfl (rowsV_all5 X) (fun hh => h (by cases X with | nil => rfl | cons a b => simp [rowsV] at hh)) (by rw [rowsV_len]; simp; omega) (by rw [rowsV_len]; simp; omega) (by decide)
  simpa using this
theorem opIs_appVC {is : List Val} {k n : Int} {s : List UInt8} {js : List Val} {ns : List (List UInt8)} {st : List LObj} (hb : (is.length + 1) * 80 ≤ 140737488355328) :
    opStep noCall [] st (.append false 5 80 (.const (.tight (rowsV is))) (.const (.tight [[.int .i64 k, .int .i64 n, .str s, .sl (rowsV js), .sl (rowsN ns)]]))) =
      some (.sl (rowsV (is ++ [Val.mk k n s js ns])) st.length (List.length (rowsV (is ++ [Val.mk k n s js ns]))), st ++ [.spare 5 (List.length (rowsV (is ++ [Val.mk k n s js ns])))]) := by
  have := opIs_appTE (size := 5) (bytes := 80) (E := rowsV is) (X := [rowV (.mk k n s js ns)]) (st := st) (x := .tight [rowV (.mk k n s js ns)]) rfl (rowsV_all5 is) rfl (by simp) (by rw [rowsV_len]; simpa using hb) (by rw [rowsV_len]; simp; omega) (by decide)
  have e : rowsV (is ++ [Val.mk k n s js ns]) = rowsV is ++ [rowV (.mk k n s js ns)] := by rw [rowsV_append]; rfl
  rw [e]
  exact this
theorem opIs_appNC {ns : List (List UInt8)} {s : List UInt8} {st : List LObj} (hb : (ns.length + 1) * 16 ≤ 140737488355328) :
    opStep noCall [] st (.append false 1 16 (.const (.tight (rowsN ns))) (.const (.tight [[.str s]]))) =
      some (.sl (rowsN (ns ++ [s])) st.length (List.length (rowsN (ns ++ [s]))), st ++ [.spare 1 (List.length (rowsN (ns ++ [s])))]) := by
  have := opIs_appTE (size := 1) (bytes := 16) (E := rowsN ns) (X := [[.str s]]) (st := st) (x := .tight [[.str s]]) rfl (rowsN_sized ns) rfl (by simp) (by rw [rowsN_len]; simpa using hb) (by rw [rowsN_len]; simp; omega) (by decide)
  have e : rowsN (ns ++ [s]) = rowsN ns ++ [[.str s]] := by simp [rowsN]
  rw [e]
  exact this
def zrowV : List LV := [.p (.int .i64 0), .p (.int .i64 0), .p (.str []), .tight [], .tight []]
def rowSZ (es : List (List PV)) : List (List LV) := rowS es ++ [[.p (.int .i64 0), .p (.int .i64 0), .p (.str []), .tight [], .tight []]]
theorem rowSZ_refs (es : List (List PV)) : (LObj.row (rowSZ es)).refs = [] := by
  have := rowS_refs es
  simp only [LObj.refs, rowSZ, List.flatMap_append] at this ⊢
  rw [this]; rfl
theorem rowSZ_ren (es : List (List PV)) (f : Nat → Nat) : (LObj.row (rowSZ es)).ren f = .row (rowSZ es) := by
  have := rowS_ren es f
  simp only [LObj.ren, rowSZ, List.map_append, LObj.row.injEq] at this ⊢
  rw [this]; rfl
theorem frzC_rowZ {o n : Nat} {X : List (List PV)} {st : List LObj} (hs : st[o]? = some (.row (rowSZ X))) (hn : n = X.length) : frzC st (.rs o 0 n) = (.p (.sl X), st.set o .dead) := by
  subst hn
  have e : ((rowSZ X).drop 0).take X.length = rowS X := by rw [List.drop_zero, rowSZ, List.take_append_of_le_length (by rw [rowS_len]; exact Nat.le_refl _), ← rowS_len X, List.take_length]
  have hl : 0 + X.length ≤ (rowSZ X).length := by rw [rowSZ, List.length_append, rowS_len]; omega
  simp only [frzC, hs, if_pos hl, e, rowS_rowPV]
theorem opIs_clearV {o k : Nat} {X : List (List PV)} {st : List LObj} (hs : st[o]? = some (.row (rowS X))) (hk : k + 1 = X.length) (hX : sized 5 X = true) :
    opStep noCall [] st (.clearS [.p (.int .i64 0), .p (.int .i64 0), .p (.str []), .tight [], .tight []] (.const (.rs o k 1))) = some (.tup [], st.set o (.row (rowSZ (X.take k)))) := by
  have h2 : k + 1 ≤ (rowS X).length ∧ (rowS X).all (fun e => e.length == 5) = true ∧ 0 < 5 := by
    refine ⟨by rw [rowS_len]; omega, ?_, by decide⟩
    have := sizedL_rowS hX
    simpa [sizedL] using this
  have e3 : (rowS X).take k ++ List.replicate 1 [.p (.int .i64 0), .p (.int .i64 0), .p (.str []), .tight [], .tight []] ++ (rowS X).drop (k + 1) = rowSZ (X.take k) := by
    rw [hk, ← rowS_len X, List.drop_length, List.append_nil, rowS_take]
    rfl
  simp only [opStep, LX.ev]
  rw [if_neg (by decide), hs]
  simp only [List.length_cons, List.length_nil]
  rw [if_pos h2, e3]
theorem opIs_clearN {o k : Nat} {ns : List (List UInt8)} {st : List LObj} (hs : st[o]? = some (.row (rowS (rowsN ns)))) (hk : k + 1 = ns.length) :
    opStep noCall [] st (.clearS [.p (.str [])] (.const (.rs o k 1))) = some (.tup [], st.set o (.row (rowS (rowsN (ns.take k ++ [[]]))))) := by
  have h := opIs_clear (size := 1) (z := [PV.str []]) (z' := [.p (.str [])]) (k := k) (m := 1) rfl hs (by rw [rowsN_len]; exact hk) (by decide) (rowsN_sized _) rfl (by decide)
  rw [h, rowsN_append, ← rowsN_take]
  rfl
theorem frz_aggZ2 {o n o' n' : Nat} {X Y Y' : List (List PV)} {st : List LObj} {a b : List LV} (ha : a.all notRs = true) (hb : b.all notRs = true) (hs : st[o]? = some (.row (rowSZ X))) (hn : n = X.length)
    (hs' : (st.set o .dead)[o']? = some (.row (rowS Y))) (hn' : n' ≤ Y.length) (hY : Y.take n' = Y') :
    frz true st [.agg (a ++ .rs o 0 n :: .rs o' 0 n' :: b)] = ([.agg (a.map LV.weak1 ++ .p (.sl X) :: .p (.sl Y') :: b.map LV.weak1)], (st.set o .dead).set o' .dead) := by
  have e : frzCs st (a ++ .rs o 0 n :: .rs o' 0 n' :: b) = (a.map LV.weak1 ++ .p (.sl X) :: .p (.sl Y') :: b.map LV.weak1, (st.set o .dead).set o' .dead) := by
    rw [frzCs_app, frzCs_plain st a ha]
    simp only [frzCs, frzC_rowZ hs hn, frzC_rowT hs' hn' hY, frzCs_plain _ b hb]
  simp only [frz, frzL, frz1, e]
def swapV : Val → Nat → Val → Val
  | .mk k n s is ns, i, x => .mk k n s (is.set i x) ns
def growV : Val → List UInt8 → Val → Val
  | .mk k n s is ns, p, x => .mk k n s (is ++ [x]) (if k == 7 then ns ++ [p] else ns)
def docV0 : Val := .mk 7 0 [] [] []
def nullV : Val := .mk 1 0 [] [] []
def setV : List (List UInt8) → Val → Val → Val × Bool
  | [], _, x => (x, true)
  | p :: r, v, x => if placeV v p ≥ 0 then (match (iV v)[(placeV v p).toNat]? with
      | some y => (swapV v (placeV v p).toNat (setV r y x).1, (setV r y x).2)
      | none => (v, false))
    else if kV v == 7 then (growV v p (setV r docV0 x).1, (setV r docV0 x).2)
    else if kV v == 6 then (growV v [] x, (idxB p).isSome && Option.getD (idxB p) 0 == ((iV v).length : Int) && r.isEmpty)
    else (v, false)
def setR : List (List UInt8) → Val → Val → Val × Bool
  | [], _, x => (x, true)
  | p :: r, v, x => if placeV v p < 0 then
      (if kV v == 7 then (growV v p (setR r docV0 x).1, (setR r docV0 x).2)
      else if kV v == 6 then (if r.isEmpty && Option.getD (idxB p) (-1) == ((iV v).length : Int) then (growV v [] x, true) else (v, false))
      else (v, false))
    else match (iV v)[(placeV v p).toNat]? with
      | some y => (swapV v (placeV v p).toNat (setR r y x).1, (setR r y x).2)
      | none => (v, false)
def withoutV : Val → Nat → Val
  | .mk k n s is ns, i => if k == 6 then .mk k n s (is.set i nullV) ns else .mk k n s (is.eraseIdx i) (ns.eraseIdx i)
def cutV (n : Int) : Val → Nat → Val
  | .mk k m s is ns, i => match is[i]? with
    | some (.mk k' m' s' is' ns') => if k' == 6 && decide ((is'.length : Int) > n) then .mk k m s (is.set i (.mk k' m' s' (is'.take n.toNat) ns')) ns else .mk k m s is ns
    | none => .mk k m s is ns
def atV (f : Val → Nat → Val) : List (List UInt8) → Val → Val
  | [], v => v
  | p :: r, v => if placeV v p < 0 then v else
    match r with
    | [] => f v (placeV v p).toNat
    | _ :: _ => match (iV v)[(placeV v p).toNat]? with
      | some y => swapV v (placeV v p).toNat (atV f r y)
      | none => v
end Go.LS

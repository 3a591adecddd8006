/- A small semantics of loaded Go code that the kernel can run, part 7. -/
import Derived.Test.YtpkmddkodchanaaLsG6
set_option linter.unusedVariables false
set_option linter.unusedSimpArgs false
namespace Go.LS
theorem frzC_row {o n : Nat} {X : List (List PV)} {st : List LObj} (hs : st[o]? = some (.row (rowS X))) (hn : n = X.length) : frzC st (.rs o 0 n) = (.p (.sl X), st.set o .dead) := by
  subst hn
  have e : ((rowS X).drop 0).take X.length = rowS X := by rw [List.drop_zero, rowS_take, List.take_length]
  have hl : 0 + X.length ≤ (rowS X).length := by rw [rowS_len]; omega
  simp only [frzC, hs, if_pos hl, e, rowS_rowPV]
theorem frzC_rowT {o n : Nat} {X Y : List (List PV)} {st : List LObj} (hs : st[o]? = some (.row (rowS X))) (hn : n ≤ X.length) (hx : X.take n = Y) : frzC st (.rs o 0 n) = (.p (.sl Y), st.set o .dead) := by
  subst hx
  have e : ((rowS X).drop 0).take n = rowS (X.take n) := by rw [List.drop_zero, rowS_take]
  have hl : 0 + n ≤ (rowS X).length := by rw [rowS_len]; omega
  simp only [frzC, hs, if_pos hl, e, rowS_rowPV]
theorem frz_aggX {o n : Nat} {X : List (List PV)} {st : List LObj} {a b : List LV} (ha : a.all notRs = true) (hb : b.all notRs = true) (hs : st[o]? = some (.row (rowS X))) (hn : n = X.length) :
    frz true st [.agg (a ++ .rs o 0 n :: b)] = ([.agg (a.map LV.weak1 ++ .p (.sl X) :: b.map LV.weak1)], st.set o .dead) := by
  have e : frzCs st (a ++ .rs o 0 n :: b) = (a.map LV.weak1 ++ .p (.sl X) :: b.map LV.weak1, st.set o .dead) := by
    rw [frzCs_app, frzCs_plain st a ha]
    simp only [frzCs, frzC_row hs hn, frzCs_plain _ b hb]
  simp only [frz, frzL, frz1, e]
theorem frzV_aggX {o n : Nat} {X : List (List PV)} {st : List LObj} {a b : List LV} (ha : a.all notRs = true) (hb : b.all notRs = true) (hs : st[o]? = some (.row (rowS X))) (hn : n = X.length) :
    frzV st (.agg (a ++ .rs o 0 n :: b)) = (.agg (a.map LV.weak1 ++ .p (.sl X) :: b.map LV.weak1), st.set o .dead) := by
  have e : frzCs st (a ++ .rs o 0 n :: b) = (a.map LV.weak1 ++ .p (.sl X) :: b.map LV.weak1, st.set o .dead) := by
    rw [frzCs_app, frzCs_plain st a ha]
    simp only [frzCs, frzC_row hs hn, frzCs_plain _ b hb]
  simp only [frzV, frz1, e]
theorem frz_agg2X {o n o' n' : Nat} {X Y Y' X' : List (List PV)} {st : List LObj} {a b : List LV} (ha : a.all notRs = true) (hb : b.all notRs = true) (hs : st[o]? = some (.row (rowS X))) (hn : n ≤ X.length) (hX : X.take n = X')
    (hs' : (st.set o .dead)[o']? = some (.row (rowS Y))) (hn' : n' ≤ Y.length) (hY : Y.take n' = Y') :
    frz true st [.agg (a ++ .rs o 0 n :: .rs o' 0 n' :: b)] = ([.agg (a.map LV.weak1 ++ .p (.sl X') :: .p (.sl Y') :: b.map LV.weak1)], (st.set o .dead).set o' .dead) := by
  have e : frzCs st (a ++ .rs o 0 n :: .rs o' 0 n' :: b) = (a.map LV.weak1 ++ .p (.sl X') :: .p (.sl Y') :: b.map LV.weak1, (st.set o .dead).set o' .dead) := by
    rw [frzCs_app, frzCs_plain st a ha]
    simp only [frzCs, frzC_rowT hs hn hX, frzC_rowT hs' hn' hY, frzCs_plain _ b hb]
  simp only [frz, frzL, frz1, e]
theorem callAt_sh {lp : LProg} {f : FuncId} {args args' : List LV} {st sh st1 st' sub' : List LObj} {r v : LV} {ids : List Nat} (hr : st.map LObj.refs = sh.map LObj.refs) (hw : wk (lp.weak f) args = args)
    (hi : reach sh 100000 (args.flatMap LV.refs) [] = ids) (hc : (closed sh ids && (args.flatMap LV.refs).all (ids.contains ·) && decide ids.Nodup) = true)
    (ha : args.map (LV.ren fun q => ids.idxOf q) = args') (hs : sub st ids = sub') (h : Runs lp f args' sub' (r, st1)) (hl : decide (ids.length ≤ st1.length) = true) (hv : r.ren (back ids st.length) = v)
    (hp : putBack st ids ((st1.take ids.length).map (LObj.ren (back ids st.length))) ++ (st1.drop ids.length).map (LObj.ren (back ids st.length)) = st') : CallAt lp f args st (v, st') := by
  obtain ⟨n, hn⟩ := Runs.at h
  refine ⟨n, fun m hm => ?_⟩
  unfold callIso
  simp only
  rw [runF_weak, hw, reach_sh hr, hi, closed_sh hr, if_pos hc, ha, hs, hn m hm]
  simp only
  rw [if_pos (of_decide_eq_true hl), hv, hp]
section
variable {o n size : Nat} {X : List (List PV)} {st : List LObj}
theorem opIs_lenRS : opStep noCall [] st (.len (.const (.rs o 0 n))) = some (.p (.int .i64 n), st) := rfl
theorem opIs_sliceHi {k : Nat} {j : Int} {e : List PV} (hs : st[o]? = some (.row (rowS X))) (hk : k ≤ X.length) (hn : n ≤ X.length) (he : X[0]? = some e) (hz : e.length = size) (hj : j = (k : Int)) :
    opStep noCall [] st (.slice size (.const (.rs o 0 n)) none (some (.const (.p (.int .i64 j)))) none) = some (.rs o 0 k, st) := opIs_sliceRS hs hk hn he hz hj
theorem opIs_sliceLo {k : Nat} {j : Int} {e : List PV} (hs : st[o]? = some (.row (rowS X))) (hk : k < X.length) (hn : n = X.length) (he : X[0]? = some e) (hz : e.length = size) (hj : j = (k : Int)) :
    opStep noCall [] st (.slice size (.const (.rs o 0 n)) (some (.const (.p (.int .i64 j)))) none none) = some (.rs o k (n - k), st) := by
  subst hj hn
  have h1 : 0 ≤ (k : Int) ∧ (k : Int) ≤ (X.length : Int) := by omega
  have h3 : k < (rowS X).length - 0 ∧ 0 + X.length ≤ (rowS X).length := by rw [rowS_len]; omega
  simp only [opStep, LX.ev, rslice, bnd, Option.map_none, Option.map_some, hs]
  rw [if_pos h1]
  simp only [Int.toNat_natCast]
  rw [if_pos h3]
  simp only [rowS_get he, List.length_map, hz, if_true, Nat.zero_add]
theorem opIs_sliceLo0 {k : Nat} {j : Int} (hs : st[o]? = some (.row (rowS X))) (hk : k = X.length) (hn : n = X.length) (hj : j = (k : Int)) :
    opStep noCall [] st (.slice size (.const (.rs o 0 n)) (some (.const (.p (.int .i64 j)))) none none) = some (.p (.sl []), st) := by
  subst hj hn hk
  have h1 : 0 ≤ (X.length : Int) ∧ (X.length : Int) ≤ (X.length : Int) := by omega
  have h3 : ¬ (X.length < (rowS X).length - 0 ∧ 0 + X.length ≤ (rowS X).length) := by rw [rowS_len]; omega
  have h4 : X.length = (rowS X).length - 0 ∧ 0 + X.length ≤ (rowS X).length := by rw [rowS_len]; omega
  simp only [opStep, LX.ev, rslice, bnd, Option.map_none, Option.map_some, hs]
  rw [if_pos h1]
  simp only [Int.toNat_natCast]
  rw [if_neg h3, if_pos h4]
theorem opIs_sliceLH {k h : Nat} {j i : Int} {e : List PV} (hs : st[o]? = some (.row (rowS X))) (hk : k < X.length) (hkh : k ≤ h) (hh : h ≤ X.length) (hn : n ≤ X.length) (he : X[0]? = some e) (hz : e.length = size) (hj : j = (k : Int)) (hi : i = (h : Int)) :
    opStep noCall [] st (.slice size (.const (.rs o 0 n)) (some (.const (.p (.int .i64 j)))) (some (.const (.p (.int .i64 i)))) none) = some (.rs o k (h - k), st) := by
  subst hj hi
  have h0 : 0 ≤ (h : Int) ∧ (h : Int) ≤ (((rowS X).length - 0 : Nat) : Int) := by rw [rowS_len]; omega
  have h1 : 0 ≤ (k : Int) ∧ (k : Int) ≤ (h : Int) := by omega
  have h3 : k < (rowS X).length - 0 ∧ 0 + n ≤ (rowS X).length := by rw [rowS_len]; omega
  simp only [opStep, LX.ev, rslice, bnd, Option.map_none, Option.map_some, hs]
  rw [if_pos h0]
  simp only [Int.toNat_natCast]
  rw [if_pos h1]
  simp only
  rw [if_pos h3]
  simp only [rowS_get he, List.length_map, hz, if_true, Nat.zero_add]
theorem opIs_slice3 {k h m : Nat} {j i l : Int} (hs : st[o]? = some (.row (rowS X))) (hkh : k ≤ h) (hh : h ≤ m) (hm : m ≤ X.length) (hkm : k < m) (hn : n ≤ X.length) (hj : j = (k : Int)) (hi : i = (h : Int)) (hl : l = (m : Int)) :
    opStep noCall [] st (.slice size (.const (.rs o 0 n)) (some (.const (.p (.int .i64 j)))) (some (.const (.p (.int .i64 i)))) (some (.const (.p (.int .i64 l))))) = some (.und, st) := by
  subst hj hi hl
  have h9 : 0 ≤ (m : Int) ∧ (m : Int) ≤ (((rowS X).length - 0 : Nat) : Int) := by rw [rowS_len]; omega
  have h0 : 0 ≤ (h : Int) ∧ (h : Int) ≤ (m : Int) := by omega
  have h1 : 0 ≤ (k : Int) ∧ (k : Int) ≤ (h : Int) := by omega
  have h3 : ¬ ((some (LV.p (.int .i64 (h : Int)))).isNone = true ∨ ¬ 0 + n ≤ (rowS X).length) := by rw [rowS_len]; simp; omega
  have h4 : ¬ m = k := by omega
  simp only [opStep, LX.ev, rslice, bnd, Option.map_none, Option.map_some, hs]
  rw [if_neg h3, if_pos h9]
  simp only [Int.toNat_natCast]
  rw [if_pos h0]
  simp only
  rw [if_pos h1]
  simp only
  rw [if_neg h4]
theorem opIs_appIn {bytes k j m : Nat} (hs : st[o]? = some (.row (rowS X))) (hk : k < X.length) (hj : j + m = X.length) (hm : 0 < m) (hkj : k + m ≤ X.length) (hX : sized size X = true) (h0 : 0 < size) :
    opStep noCall [] st (.append false size bytes (.const (.rs o 0 k)) (.const (.rs o j m))) = some (.rs o 0 (k + m), st.set o (.row (rowS (X.take k ++ X.drop j ++ X.drop (k + m))))) := by
  have e1 : (rowS X).drop j = rowS (X.drop j) := by simp [rowS]
  have e2 : (rowS (X.drop j)).take m = rowS (X.drop j) := by rw [rowS_take, List.take_of_length_le (by rw [List.length_drop]; omega)]
  have ha : appendedR st (.rs o j m) = some (rowS (X.drop j)) := by
    simp only [appendedR, hs]
    rw [if_pos (by rw [rowS_len]; omega), e1, e2]
  have hl : (rowS (X.drop j)).length = m := by rw [rowS_len, List.length_drop]; omega
  have hz : sizedL size (rowS (X.drop j)) = true := by
    have := sizedL_rowS hX
    unfold sizedL at this ⊢
    rw [List.all_eq_true] at this ⊢
    intro e he
    rw [← e1] at he
    exact this e (List.mem_of_mem_drop he)
  have hne : (rowS (X.drop j)).isEmpty = false := by
    cases hq : rowS (X.drop j) with
    | nil => rw [hq] at hl; simp at hl; omega
    | cons a b => rfl
  have h1 : ¬ (k = (rowS X).length ∧ 0 < k ∧ sizedL size (rowS X) = true ∧ roomy (k + m) bytes = true ∧ k + m ≤ maxLen ∧ 0 < size) := by rw [rowS_len]; omega
  have h2 : k + m ≤ (rowS X).length ∧ sizedL size (rowS X) = true ∧ 0 < size := ⟨by rw [rowS_len]; omega, sizedL_rowS hX, h0⟩
  have e3 : (rowS X).take k ++ rowS (X.drop j) ++ (rowS X).drop (k + m) = rowS (X.take k ++ X.drop j ++ X.drop (k + m)) := by simp [rowS]
  have hla : lappend false size bytes st (.rs o 0 k) (.rs o j m) = none := by simp only [lappend]; split <;> (try split) <;> rfl
  simp only [opStep, LX.ev, hla, orA_none, rappend, ha, hz, Bool.not_true, Bool.false_eq_true, if_false, hs, hne, hl]
  rw [if_neg h1, if_pos h2, e3]
theorem opIs_appIn0 {bytes k : Nat} (hs : st[o]? = some (.row (rowS X))) :
    opStep noCall [] st (.append false size bytes (.const (.rs o 0 k)) (.const (.p (.sl [])))) = some (.rs o 0 k, st) := by
  have hla : lappend false size bytes st (.rs o 0 k) (.p (.sl [])) = none := by simp only [lappend]; split <;> (try split) <;> rfl
  have ha : appendedR st (.p (.sl [])) = some [] := rfl
  simp only [opStep, LX.ev, hla, orA_none, rappend, ha, sizedL, List.all_nil, Bool.not_true, Bool.false_eq_true, if_false, hs, List.isEmpty_nil, if_true]
theorem opIs_clear {z : List PV} {z' : List LV} {k m : Nat} (hz' : z' = z.map .p) (hs : st[o]? = some (.row (rowS X))) (hk : k + m = X.length) (hm : 0 < m) (hX : sized size X = true) (hz : z.length = size) (h0 : 0 < size) :
    opStep noCall [] st (.clearS z' (.const (.rs o k m))) = some (.tup [], st.set o (.row (rowS (X.take k ++ List.replicate m z)))) := by
  subst hz'
  have h1 : ¬ m = 0 := by omega
  have h2 : k + m ≤ (rowS X).length ∧ (rowS X).all (fun e => e.length == (z.map LV.p).length) = true ∧ 0 < (z.map LV.p).length := by
    refine ⟨by rw [rowS_len]; omega, ?_, by simp; omega⟩
    have := sizedL_rowS hX
    simpa [sizedL, hz] using this
  have e3 : (rowS X).take k ++ List.replicate m (z.map LV.p) ++ (rowS X).drop (k + m) = rowS (X.take k ++ List.replicate m z) := by
    rw [hk, ← rowS_len X, List.drop_length]
    simp [rowS]
  simp only [opStep, LX.ev]
  rw [if_neg h1, hs]
  simp only
  rw [if_pos h2, e3]
end
theorem rowsV_take (a : List Val) (n : Nat) : rowsV (a.take n) = (rowsV a).take n := by rw [rowsV_map, rowsV_map, List.map_take]
theorem rowsV_drop (a : List Val) (n : Nat) : rowsV (a.drop n) = (rowsV a).drop n := by rw [rowsV_map, rowsV_map, List.map_drop]
theorem rowsV_set (a : List Val) (i : Nat) (v : Val) : (rowsV a).set i (rowV v) = rowsV (a.set i v) := by rw [rowsV_map, rowsV_map, List.map_set]
theorem rowsV_all5 (a : List Val) : sized 5 (rowsV a) = true := by
  unfold sized
  rw [List.all_eq_true]
  intro e he
  rw [rowsV_map] at he
  obtain ⟨v, _, rfl⟩ := List.mem_map.1 he
  rw [rowV_len]; rfl
theorem opIs_idxVO {o n k : Nat} {is : List Val} {st : List LObj} (hs : st[o]? = some (.row (rowS (rowsV is)))) (hk : k < n) (he : k < is.length) {j : Int} (hj : j = (k : Int)) :
    opStep noCall [] st (.indexAddr 5 (.const (.rs o 0 n)) (.const (.p (.int .i64 j)))) = some (.ptr o k 0, st) :=
  opIs_idxRS hs hk (rowsV_get (List.getElem?_eq_getElem he)) (rowV_len _) hj
theorem opIs_stVO {o i : Nat} {k n : Int} {s : List UInt8} {is : List Val} {ns : List (List UInt8)} {xs : List Val} {st : List LObj} (hs : st[o]? = some (.row (rowS (rowsV xs)))) (he : i < xs.length) :
    opStep noCall [] st (.store 5 (.const (.ptr o i 0)) (.const (.agg [.p (.int .i64 k), .p (.int .i64 n), .p (.str s), .p (.sl (rowsV is)), .p (.sl (rowsN ns))]))) = some (.tup [], st.set o (.row (rowS (rowsV (xs.set i (.mk k n s is ns)))))) := by
  have e := rowS_set (rowsV xs) i (rowV (.mk k n s is ns))
  rw [rowsV_set] at e
  have hl : ((rowV xs[i]).map LV.p).length = 5 := by rw [List.length_map, rowV_len]
  simp only [opStep, LX.ev, LV.cells?, LV.stAt, hs, rowS_get (rowsV_get (List.getElem?_eq_getElem he)), List.length_cons, List.length_nil, if_true, Nat.zero_add]
  rw [if_pos (by rw [hl]; decide)]
  simp only [List.take_zero, List.nil_append]
  rw [← e]
  have e2 : List.drop 5 ((rowV xs[i]).map LV.p) = [] := List.drop_eq_nil_of_le (by rw [hl]; decide)
  simp [rowV, e2]
theorem opIs_appVO {o n : Nat} {xs : List Val} {k m : Int} {s : List UInt8} {is : List Val} {ns : List (List UInt8)} {st : List LObj} (hs : st[o]? = some (.row (rowS (rowsV xs)))) (hn : n = xs.length) (h1 : 0 < xs.length) (hb : (xs.length + 1) * 80 ≤ 140737488355328) :
    opStep noCall [] st (.appendR 5 80 (.const (.rs o 0 n)) (.const (.tight [[.int .i64 k, .int .i64 m, .str s, .sl (rowsV is), .sl (rowsN ns)]]))) = some (.rs st.length 0 (xs ++ [Val.mk k m s is ns]).length, st.set o .dead ++ [.row (rowS (rowsV (xs ++ [Val.mk k m s is ns])))]) := by
  have := opIs_appRS (size := 5) (bytes := 80) (Y := [rowV (.mk k m s is ns)]) (x := .tight [rowV (.mk k m s is ns)]) (n := n) hs (by rw [rowsV_len]; exact hn) rfl (fun a b c h => by cases h) (rowsV_all5 xs) rfl (by simp) (by rw [rowsV_len]; exact h1) (by rw [rowsV_len]; simpa using hb) (by rw [rowsV_len]; simp [maxLen]; omega) (by decide)
  have e : rowsV (xs ++ [Val.mk k m s is ns]) = rowsV xs ++ [rowV (.mk k m s is ns)] := by rw [rowsV_append]; rfl
  rw [e, List.length_append, ← rowsV_len xs]
  exact this
theorem opIs_appVZ {k m : Int} {s : List UInt8} {is : List Val} {ns : List (List UInt8)} {st : List LObj} :
    opStep noCall [] st (.appendR 5 80 (.const (.tight [])) (.const (.tight [[.int .i64 k, .int .i64 m, .str s, .sl (rowsV is), .sl (rowsN ns)]]))) = some (.rs st.length 0 [Val.mk k m s is ns].length, st ++ [.row (rowS (rowsV [.mk k m s is ns]))]) := rfl
theorem opIs_appVX {is : List Val} {st : List LObj} (hne : is ≠ []) (hb : is.length * 80 ≤ 140737488355328) :
    opStep noCall [] st (.appendR 5 80 (.const (.tight [])) (.const (.p (.sl (rowsV is))))) = some (.rs st.length 0 is.length, st ++ [.row (rowS (rowsV is))]) := by
  have := opIs_appRT (size := 5) (bytes := 80) (X := rowsV is) (st := st) (rowsV_all5 is) (by cases is <;> simp_all [rowsV]) (by rw [rowsV_len]; exact hb) (by rw [rowsV_len]; simp [maxLen]; omega) (by decide)
  rw [rowsV_len] at this
  exact this
end Go.LS
set_option linter.unusedVariables false
set_option linter.unusedSimpArgs false
namespace Go.LS
theorem opIs_clip {size : Nat} {E : List (List PV)} {st : List LObj} (hE : sized size E = true) :
    opStep noCall [] st (.slice size (.const (.p (.sl E))) none (some (.const (.p (.int .i64 ((E.length : Nat) : Int))))) (some (.const (.p (.int .i64 ((E.length : Nat) : Int)))))) = some (.tight E, st) := by
  have hall : (E.all fun e => e.length == size) = true := hE
  simp [opStep, LX.ev, rslice, LV.asSl, hall, lslice, bnd]
theorem opIs_takeE {size n : Nat} {E : List (List PV)} {j : Int} {st : List LObj} (hE : sized size E = true) (h : n ≤ E.length) (hj : j = (n : Int)) :
    opStep noCall [] st (.slice size (.const (.p (.sl E))) none (some (.const (.p (.int .i64 j)))) none) = some (.p (.sl (E.take n)), st) := by
  subst hj
  have hall : (E.all fun e => e.length == size) = true := hE
  have e1 : rslice size st (.p (.sl E)) none (some (.p (.int .i64 (n : Int)))) none = some (.p (.sl (E.take n))) := by
    simp only [rslice, LV.asSl, hall, if_true, lslice, bnd, Option.isSome_none, Bool.false_eq_true, false_and, if_false, Option.isNone_some]
    rw [if_pos (by omega)]
    simp only [Int.toNat_natCast, List.drop_zero, Option.isNone_none, true_and]
    by_cases hn : n = E.length ∧ 0 < E.length
    · rw [if_pos hn, hn.1, List.take_length]
    · rw [if_neg hn]
  simp only [opStep, LX.ev, Option.map_none, Option.map_some, e1]
theorem opIs_dropE {size n : Nat} {E : List (List PV)} {j : Int} {st : List LObj} (hE : sized size E = true) (h : n ≤ E.length) (hj : j = (n : Int)) :
    opStep noCall [] st (.slice size (.const (.p (.sl E))) (some (.const (.p (.int .i64 j)))) none none) = some (.p (.sl (E.drop n)), st) := by
  subst hj
  have hall : (E.all fun e => e.length == size) = true := hE
  have e1 : rslice size st (.p (.sl E)) (some (.p (.int .i64 (n : Int)))) none none = some (.p (.sl (E.drop n))) := by
    simp only [rslice, LV.asSl, hall, if_true, lslice, bnd, Option.isSome_none, Bool.false_eq_true, false_and, if_false, Option.isNone_none, true_and]
    rw [if_pos (by omega)]
    simp only [Int.toNat_natCast, List.take_length]
    by_cases hn : n < E.length
    · rw [if_pos hn]
    · rw [if_neg hn]
  simp only [opStep, LX.ev, Option.map_none, Option.map_some, e1]
theorem opIs_takeV {n : Nat} {is : List Val} {j : Int} {st : List LObj} (h : n ≤ is.length) (hj : j = (n : Int)) :
    opStep noCall [] st (.slice 5 (.const (.p (.sl (rowsV is)))) none (some (.const (.p (.int .i64 j)))) none) = some (.p (.sl (rowsV (is.take n))), st) := by
  rw [rowsV_take]; exact opIs_takeE (rowsV_all5 is) (by rw [rowsV_len]; exact h) hj
theorem opIs_dropV {n : Nat} {is : List Val} {j : Int} {st : List LObj} (h : n ≤ is.length) (hj : j = (n : Int)) :
    opStep noCall [] st (.slice 5 (.const (.p (.sl (rowsV is)))) (some (.const (.p (.int .i64 j)))) none none) = some (.p (.sl (rowsV (is.drop n))), st) := by
  rw [rowsV_drop]; exact opIs_dropE (rowsV_all5 is) (by rw [rowsV_len]; exact h) hj
theorem rowsN_drop (n : Nat) (ms : List (List UInt8)) : (rowsN ms).drop n = rowsN (ms.drop n) := by simp [rowsN, List.map_drop]
theorem opIs_takeN {n : Nat} {ns : List (List UInt8)} {j : Int} {st : List LObj} (h : n ≤ ns.length) (hj : j = (n : Int)) :
    opStep noCall [] st (.slice 1 (.const (.p (.sl (rowsN ns)))) none (some (.const (.p (.int .i64 j)))) none) = some (.p (.sl (rowsN (ns.take n))), st) := by
  rw [← rowsN_take]; exact opIs_takeE (rowsN_sized ns) (by rw [rowsN_len]; exact h) hj
theorem opIs_dropN {n : Nat} {ns : List (List UInt8)} {j : Int} {st : List LObj} (h : n ≤ ns.length) (hj : j = (n : Int)) :
    opStep noCall [] st (.slice 1 (.const (.p (.sl (rowsN ns)))) (some (.const (.p (.int .i64 j)))) none none) = some (.p (.sl (rowsN (ns.drop n))), st) := by
  rw [← rowsN_drop]; exact opIs_dropE (rowsN_sized ns) (by rw [rowsN_len]; exact h) hj
theorem opIs_tailN {p : List UInt8} {r : List (List UInt8)} {st : List LObj} :
    opStep noCall [] st (.slice 1 (.const (.p (.sl (rowsN (p :: r))))) (some (.const (.p (.int .i64 1)))) none none) = some (.p (.sl (rowsN r)), st) :=
  opIs_dropN (ns := p :: r) (n := 1) (by simp) rfl
theorem lenN0 {p : List UInt8} {r : List (List UInt8)} : (((List.length (rowsN (p :: r)) : Nat) : Int) == 0) = false := by
  rw [rowsN_len, beq_eq_false_iff_ne]; simp only [List.length_cons]; omega
theorem nlt0 {i : Nat} : decide ((i : Int) < 0) = false := by rw [decide_eq_false_iff_not]; omega
theorem opIs_idxP0 {p : List UInt8} {r : List (List UInt8)} {st : List LObj} :
    opStep noCall [] st (.indexAddr 1 (.const (.p (.sl (rowsN (p :: r))))) (.const (.p (.int .i64 0)))) = some (.pin [.str p] 0, st) := rfl
theorem opIs_appVR {tg : Nat} {E X : List Val} {st : List LObj} (hs : st[tg]? = some (.spare 5 (List.length (rowsV E)))) (hb : (E.length + X.length) * 80 ≤ 140737488355328) :
    opStep noCall [] st (.append false 5 80 (.const (.sl (rowsV E) tg (List.length (rowsV E)))) (.const (.p (.sl (rowsV X))))) =
      some (.sl (rowsV (E ++ X)) tg (List.length (rowsV (E ++ X))), st.set tg (.spare 5 (List.length (rowsV (E ++ X))))) := by
  have := opIs_appSE (size := 5) (bytes := 80) (tg := tg) (E := rowsV E) (X := rowsV X) (st := st) (x := .p (.sl (rowsV X))) hs rfl (rowsV_all5 X)
    (by rw [rowsV_len, rowsV_len]; exact hb) (by rw [rowsV_len, rowsV_len]; omega) (by decide)
  rw [this, rowsV_append]
theorem opIs_appV0 {X : List Val} {st : List LObj} (h : decide (X = []) = true) :
    opStep noCall [] st (.append false 5 80 (.const (.tight [])) (.const (.p (.sl (rowsV X))))) = some (.tight [], st) := by
  have h := of_decide_eq_true h
  subst h
  rfl
theorem opIs_appVN {X : List Val} {st : List LObj} (h : decide (X = []) = false) (hb : X.length * 80 ≤ 140737488355328) :
    opStep noCall [] st (.append false 5 80 (.const (.tight [])) (.const (.p (.sl (rowsV X))))) = some (.sl (rowsV X) st.length (List.length (rowsV X)), st ++ [.spare 5 (List.length (rowsV X))]) := by
  have h := of_decide_eq_false h
  have := opIs_appTE (size := 5) (bytes := 80) (E := []) (X := rowsV X) (st := st) (x := .p (.sl (rowsV X))) rfl rfl (rowsV_all5 X) (fun hh => h (by cases X with | nil => rfl | cons a b => simp [rowsV] at hh)) (by rw [rowsV_len]; simp; omega) (by rw [rowsV_len]; simp; omega) (by decide)
  simpa using this
theorem opIs_appVC {is : List Val} {k n : Int} {s : List UInt8} {js : List Val} {ns : List (List UInt8)} {st : List LObj} (hb : (is.length + 1) * 80 ≤ 140737488355328) :
    opStep noCall [] st (.append false 5 80 (.const (.tight (rowsV is))) (.const (.tight [[.int .i64 k, .int .i64 n, .str s, .sl (rowsV js), .sl (rowsN ns)]]))) =
      some (.sl (rowsV (is ++ [Val.mk k n s js ns])) st.length (List.length (rowsV (is ++ [Val.mk k n s js ns]))), st ++ [.spare 5 (List.length (rowsV (is ++ [Val.mk k n s js ns])))]) := by
  have := opIs_appTE (size := 5) (bytes := 80) (E := rowsV is) (X := [rowV (.mk k n s js ns)]) (st := st) (x := .tight [rowV (.mk k n s js ns)]) rfl (rowsV_all5 is) rfl (by simp) (by rw [rowsV_len]; simpa using hb) (by rw [rowsV_len]; simp; omega) (by decide)
  have e : rowsV (is ++ [Val.mk k n s js ns]) = rowsV is ++ [rowV (.mk k n s js ns)] := by rw [rowsV_append]; rfl
  rw [e]
  exact this
theorem opIs_appNC {ns : List (List UInt8)} {s : List UInt8} {st : List LObj} (hb : (ns.length + 1) * 16 ≤ 140737488355328) :
    opStep noCall [] st (.append false 1 16 (.const (.tight (rowsN ns))) (.const (.tight [[.str s]]))) =
      some (.sl (rowsN (ns ++ [s])) st.length (List.length (rowsN (ns ++ [s]))), st ++ [.spare 1 (List.length (rowsN (ns ++ [s])))]) := by
  have := opIs_appTE (size := 1) (bytes := 16) (E := rowsN ns) (X := [[.str s]]) (st := st) (x := .tight [[.str s]]) rfl (rowsN_sized ns) rfl (by simp) (by rw [rowsN_len]; simpa using hb) (by rw [rowsN_len]; simp; omega) (by decide)
  have e : rowsN (ns ++ [s]) = rowsN ns ++ [[.str s]] := by simp [rowsN]
  rw [e]
  exact this
def zrowV : List LV := [.p (.int .i64 0), .p (.int .i64 0), .p (.str []), .tight [], .tight []]
def rowSZ (es : List (List PV)) : List (List LV) := rowS es ++ [[.p (.int .i64 0), .p (.int .i64 0), .p (.str []), .tight [], .tight []]]
theorem rowSZ_refs (es : List (List PV)) : (LObj.row (rowSZ es)).refs = [] := by
  have := rowS_refs es
  simp only [LObj.refs, rowSZ, List.flatMap_append] at this ⊢
  rw [this]; rfl
theorem rowSZ_ren (es : List (List PV)) (f : Nat → Nat) : (LObj.row (rowSZ es)).ren f = .row (rowSZ es) := by
  have := rowS_ren es f
  simp only [LObj.ren, rowSZ, List.map_append, LObj.row.injEq] at this ⊢
  rw [this]; rfl
theorem frzC_rowZ {o n : Nat} {X : List (List PV)} {st : List LObj} (hs : st[o]? = some (.row (rowSZ X))) (hn : n = X.length) : frzC st (.rs o 0 n) = (.p (.sl X), st.set o .dead) := by
  subst hn
  have e : ((rowSZ X).drop 0).take X.length = rowS X := by rw [List.drop_zero, rowSZ, List.take_append_of_le_length (by rw [rowS_len]; exact Nat.le_refl _), ← rowS_len X, List.take_length]
  have hl : 0 + X.length ≤ (rowSZ X).length := by rw [rowSZ, List.length_append, rowS_len]; omega
  simp only [frzC, hs, if_pos hl, e, rowS_rowPV]
theorem opIs_clearV {o k : Nat} {X : List (List PV)} {st : List LObj} (hs : st[o]? = some (.row (rowS X))) (hk : k + 1 = X.length) (hX : sized 5 X = true) :
    opStep noCall [] st (.clearS [.p (.int .i64 0), .p (.int .i64 0), .p (.str []), .tight [], .tight []] (.const (.rs o k 1))) = some (.tup [], st.set o (.row (rowSZ (X.take k)))) := by
  have h2 : k + 1 ≤ (rowS X).length ∧ (rowS X).all (fun e => e.length == 5) = true ∧ 0 < 5 := by
    refine ⟨by rw [rowS_len]; omega, ?_, by decide⟩
    have := sizedL_rowS hX
    simpa [sizedL] using this
  have e3 : (rowS X).take k ++ List.replicate 1 [.p (.int .i64 0), .p (.int .i64 0), .p (.str []), .tight [], .tight []] ++ (rowS X).drop (k + 1) = rowSZ (X.take k) := by
    rw [hk, ← rowS_len X, List.drop_length, List.append_nil, rowS_take]
    rfl
  simp only [opStep, LX.ev]
  rw [if_neg (by decide), hs]
  simp only [List.length_cons, List.length_nil]
  rw [if_pos h2, e3]
theorem opIs_clearN {o k : Nat} {ns : List (List UInt8)} {st : List LObj} (hs : st[o]? = some (.row (rowS (rowsN ns)))) (hk : k + 1 = ns.length) :
    opStep noCall [] st (.clearS [.p (.str [])] (.const (.rs o k 1))) = some (.tup [], st.set o (.row (rowS (rowsN (ns.take k ++ [[]]))))) := by
  have h := opIs_clear (size := 1) (z := [PV.str []]) (z' := [.p (.str [])]) (k := k) (m := 1) rfl hs (by rw [rowsN_len]; exact hk) (by decide) (rowsN_sized _) rfl (by decide)
  rw [h, rowsN_append, ← rowsN_take]
  rfl
theorem frz_aggZ2 {o n o' n' : Nat} {X Y Y' : List (List PV)} {st : List LObj} {a b : List LV} (ha : a.all notRs = true) (hb : b.all notRs = true) (hs : st[o]? = some (.row (rowSZ X))) (hn : n = X.length)
    (hs' : (st.set o .dead)[o']? = some (.row (rowS Y))) (hn' : n' ≤ Y.length) (hY : Y.take n' = Y') :
    frz true st [.agg (a ++ .rs o 0 n :: .rs o' 0 n' :: b)] = ([.agg (a.map LV.weak1 ++ .p (.sl X) :: .p (.sl Y') :: b.map LV.weak1)], (st.set o .dead).set o' .dead) := by
  have e : frzCs st (a ++ .rs o 0 n :: .rs o' 0 n' :: b) = (a.map LV.weak1 ++ .p (.sl X) :: .p (.sl Y') :: b.map LV.weak1, (st.set o .dead).set o' .dead) := by
    rw [frzCs_app, frzCs_plain st a ha]
    simp only [frzCs, frzC_rowZ hs hn, frzC_rowT hs' hn' hY, frzCs_plain _ b hb]
  simp only [frz, frzL, frz1, e]
def swapV : Val → Nat → Val → Val
  | .mk k n s is ns, i, x => .mk k n s (is.set i x) ns
def growV : Val → List UInt8 → Val → Val
  | .mk k n s is ns, p, x => .mk k n s (is ++ [x]) (if k == 7 then ns ++ [p] else ns)
def docV0 : Val := .mk 7 0 [] [] []
def nullV : Val := .mk 1 0 [] [] []
def setV : List (List UInt8) → Val → Val → Val × Bool
  | [], _, x => (x, true)
  | p :: r, v, x => if placeV v p ≥ 0 then (match (iV v)[(placeV v p).toNat]? with
      | some y => (swapV v (placeV v p).toNat (setV r y x).1, (setV r y x).2)
      | none => (v, false))
    else if kV v == 7 then (growV v p (setV r docV0 x).1, (setV r docV0 x).2)
    else if kV v == 6 then (growV v [] x, (idxB p).isSome && Option.getD (idxB p) 0 == ((iV v).length : Int) && r.isEmpty)
    else (v, false)
def setR : List (List UInt8) → Val → Val → Val × Bool
  | [], _, x => (x, true)
  | p :: r, v, x => if placeV v p < 0 then
      (if kV v == 7 then (growV v p (setR r docV0 x).1, (setR r docV0 x).2)
      else if kV v == 6 then (if r.isEmpty && Option.getD (idxB p) (-1) == ((iV v).length : Int) then (growV v [] x, true) else (v, false))
      else (v, false))
    else match (iV v)[(placeV v p).toNat]? with
      | some y => (swapV v (placeV v p).toNat (setR r y x).1, (setR r y x).2)
      | none => (v, false)
def withoutV : Val → Nat → Val
  | .mk k n s is ns, i => if k == 6 then .mk k n s (is.set i nullV) ns else .mk k n s (is.eraseIdx i) (ns.eraseIdx i)
def cutV (n : Int) : Val → Nat → Val
  | .mk k m s is ns, i => match is[i]? with
    | some (.mk k' m' s' is' ns') => if k' == 6 && decide ((is'.length : Int) > n) then .mk k m s (is.set i (.mk k' m' s' (is'.take n.toNat) ns')) ns else .mk k m s is ns
    | none => .mk k m s is ns
def atV (f : Val → Nat → Val) : List (List UInt8) → Val → Val
  | [], v => v
  | p :: r, v => if placeV v p < 0 then v else
    match r with
    | [] => f v (placeV v p).toNat
    | _ :: _ => match (iV v)[(placeV v p).toNat]? with
      | some y => swapV v (placeV v p).toNat (atV f r y)
      | none => v
end Go.LS
set_option linter.unusedVariables false
set_option linter.unusedSimpArgs false
namespace Go.LS
mutual
def okW (B : Nat) : Val → Prop
  | .mk k n s is ns => (-9223372036854775808 ≤ k ∧ k ≤ 9223372036854775807) ∧ (-9223372036854775808 ≤ n ∧ n ≤ 9223372036854775807) ∧ s.length ≤ 140737488351232 ∧ is.length ≤ B ∧ ns.length ≤ B ∧ (∀ x ∈ ns, x.length ≤ 140737488351232) ∧ okWL B is
def okWL (B : Nat) : List Val → Prop
  | [] => True
  | v :: r => okW B v ∧ okWL B r
end
theorem okWL_all {B : Nat} : ∀ {l : List Val}, okWL B l ↔ ∀ v ∈ l, okW B v
  | [] => by simp [okWL]
  | v :: r => by rw [okWL, okWL_all (l := r)]; simp
theorem okW_inv {B : Nat} {k n : Int} {s : List UInt8} {is : List Val} {ns : List (List UInt8)} (h : okW B (.mk k n s is ns)) : (-9223372036854775808 ≤ k ∧ k ≤ 9223372036854775807) ∧ (-9223372036854775808 ≤ n ∧ n ≤ 9223372036854775807) ∧ s.length ≤ 140737488351232 ∧ is.length ≤ B ∧ ns.length ≤ B ∧ (∀ x ∈ ns, x.length ≤ 140737488351232) ∧ ∀ v ∈ is, okW B v := by
  rw [okW, okWL_all] at h; exact h
theorem okW_mk {B : Nat} {k n : Int} {s : List UInt8} {is : List Val} {ns : List (List UInt8)} (h : (-9223372036854775808 ≤ k ∧ k ≤ 9223372036854775807) ∧ (-9223372036854775808 ≤ n ∧ n ≤ 9223372036854775807) ∧ s.length ≤ 140737488351232 ∧ is.length ≤ B ∧ ns.length ≤ B ∧ (∀ x ∈ ns, x.length ≤ 140737488351232) ∧ ∀ v ∈ is, okW B v) : okW B (.mk k n s is ns) := by
  rw [okW, okWL_all]; exact h
theorem okW_okV {B : Nat} (hB : B ≤ 1000000000000) : ∀ v, okW B v → okV v := by
  refine Val.ind fun k n s is ns ih h => ?_
  obtain ⟨h1, h2, h3, h4, h5, h6, h7⟩ := okW_inv h
  rw [okV, okL_all]
  exact ⟨h1, h2, h3, by omega, by omega, h6, fun v hv => ih v hv (h7 v hv)⟩
theorem okW_mono {B C : Nat} (hB : B ≤ C) : ∀ v, okW B v → okW C v := by
  refine Val.ind fun k n s is ns ih h => ?_
  obtain ⟨h1, h2, h3, h4, h5, h6, h7⟩ := okW_inv h
  exact okW_mk ⟨h1, h2, h3, by omega, by omega, h6, fun v hv => ih v hv (h7 v hv)⟩
theorem okW_items {B : Nat} {v y : Val} {i : Nat} (h : okW B v) (hy : (iV v)[i]? = some y) : okW B y := by
  obtain ⟨k, n, s, is, ns⟩ := v
  exact (okW_inv h).2.2.2.2.2.2 y (List.mem_of_getElem? hy)
theorem okW_swap {B : Nat} {v x : Val} {i : Nat} (h : okW B v) (hx : okW B x) : okW B (swapV v i x) := by
  obtain ⟨k, n, s, is, ns⟩ := v
  obtain ⟨h1, h2, h3, h4, h5, h6, h7⟩ := okW_inv h
  refine okW_mk ⟨h1, h2, h3, by rw [List.length_set]; exact h4, h5, h6, fun y hy => ?_⟩
  rcases List.mem_or_eq_of_mem_set hy with hy | rfl
  · exact h7 y hy
  · exact hx
theorem okW_grow {B : Nat} {v x : Val} {p : List UInt8} (h : okW B v) (hp : p.length ≤ 140737488351232) (hx : okW (B + 1) x) : okW (B + 1) (growV v p x) := by
  obtain ⟨k, n, s, is, ns⟩ := v
  obtain ⟨h1, h2, h3, h4, h5, h6, h7⟩ := okW_inv h
  refine okW_mk ⟨h1, h2, h3, by simp; omega, ?_, ?_, fun y hy => ?_⟩
  · split <;> (try simp) <;> omega
  · split
    · intro y hy
      rcases List.mem_append.1 hy with hy | hy
      · exact h6 y hy
      · simp at hy; subst hy; exact hp
    · exact h6
  · rcases List.mem_append.1 hy with hy | hy
    · exact okW_mono (Nat.le_succ B) _ (h7 y hy)
    · simp at hy; subst hy; exact hx
theorem okW_doc0 {B : Nat} : okW B docV0 := okW_mk ⟨by omega, by omega, by simp, by simp, by simp, by simp, by simp⟩
theorem okW_null {B : Nat} : okW B nullV := okW_mk ⟨by omega, by omega, by simp, by simp, by simp, by simp, by simp⟩
theorem okW_set {B : Nat} {x : Val} (hx : okW B x) : ∀ (ps : List (List UInt8)) (v : Val), okW B v → (∀ p ∈ ps, p.length ≤ 140737488351232) → okW (B + 1) (setV ps v x).1
  | [], v, h, hp => okW_mono (Nat.le_succ B) _ hx
  | p :: r, v, h, hp => by
    have hr : ∀ q ∈ r, q.length ≤ 140737488351232 := fun q hq => hp q (List.mem_cons_of_mem _ hq)
    have hx' := okW_mono (Nat.le_succ B) _ hx
    have h' := okW_mono (Nat.le_succ B) _ h
    rw [setV]
    split
    · split
      · rename_i y hy
        exact okW_swap h' (okW_set hx r y (okW_items h hy) hr)
      · exact h'
    · split
      · exact okW_grow h (hp p (List.mem_cons_self ..)) (okW_set hx r docV0 okW_doc0 hr)
      · split
        · exact okW_grow h (by simp) hx'
        · exact h'
theorem okW_setR {B : Nat} {x : Val} (hx : okW B x) : ∀ (ps : List (List UInt8)) (v : Val), okW B v → (∀ p ∈ ps, p.length ≤ 140737488351232) → okW (B + 1) (setR ps v x).1
  | [], v, h, hp => okW_mono (Nat.le_succ B) _ hx
  | p :: r, v, h, hp => by
    have hr : ∀ q ∈ r, q.length ≤ 140737488351232 := fun q hq => hp q (List.mem_cons_of_mem _ hq)
    have hx' := okW_mono (Nat.le_succ B) _ hx
    have h' := okW_mono (Nat.le_succ B) _ h
    rw [setR]
    split
    · split
      · exact okW_grow h (hp p (List.mem_cons_self ..)) (okW_setR hx r docV0 okW_doc0 hr)
      · split
        · split
          · exact okW_grow h (by simp) hx'
          · exact h'
        · exact h'
    · split
      · rename_i y hy
        exact okW_swap h' (okW_setR hx r y (okW_items h hy) hr)
      · exact h'
theorem okW_without {B : Nat} {v : Val} {i : Nat} (h : okW B v) : okW B (withoutV v i) := by
  obtain ⟨k, n, s, is, ns⟩ := v
  obtain ⟨h1, h2, h3, h4, h5, h6, h7⟩ := okW_inv h
  rw [withoutV]
  split
  · exact okW_swap (v := .mk k n s is ns) h okW_null
  · refine okW_mk ⟨h1, h2, h3, ?_, ?_, fun y hy => h6 y (List.mem_of_mem_eraseIdx hy), fun y hy => h7 y (List.mem_of_mem_eraseIdx hy)⟩
    · have := List.length_eraseIdx_le is i; omega
    · have := List.length_eraseIdx_le ns i; omega
theorem okW_cut {B : Nat} {c : Int} {v : Val} {i : Nat} (h : okW B v) : okW B (cutV c v i) := by
  obtain ⟨k, n, s, is, ns⟩ := v
  rw [cutV]
  split
  · rename_i k' m' s' is' ns' hy
    split
    · obtain ⟨h1, h2, h3, h4, h5, h6, h7⟩ := okW_inv (okW_items (v := .mk k n s is ns) h hy)
      exact okW_swap (v := .mk k n s is ns) h (okW_mk ⟨h1, h2, h3, by rw [List.length_take]; omega, h5, h6, fun y hy => h7 y (List.mem_of_mem_take hy)⟩)
    · exact h
  · exact h
theorem okW_at {B : Nat} {f : Val → Nat → Val} (hf : ∀ v i, okW B v → okW B (f v i)) : ∀ (ps : List (List UInt8)) (v : Val), okW B v → okW B (atV f ps v)
  | [], v, h => h
  | p :: r, v, h => by
    cases r with
    | nil =>
      rw [atV]
      split
      · exact h
      · exact hf _ _ h
    | cons q t =>
      rw [atV]
      split
      · exact h
      · split
        · rename_i y hy
          exact okW_swap h (okW_at hf (q :: t) y (okW_items h hy))
        · exact h
theorem idxN_eq (s : List UInt8) : ∀ (l : List (List UInt8)) (i : Int), idxN s l i = if s ∈ l then i + (l.idxOf s : Int) else -1
  | [], i => by simp [idxN]
  | x :: r, i => by
    rw [idxN, idxN_eq s r]
    by_cases h : s = x
    · subst h; simp
    · have hx : (x == s) = false := by simp; exact fun e => h e.symm
      have : (s == x) = false := by simp [h]
      rw [this]
      simp only [Bool.false_eq_true, if_false, List.mem_cons, h, false_or, List.idxOf_cons, hx, cond_false]
      split
      · push_cast; omega
      · rfl
theorem place7 {n : Int} {s p : List UInt8} {is : List Val} {ns : List (List UInt8)} : placeV (.mk 7 n s is ns) p = if p ∈ ns then ((ns.idxOf p : Nat) : Int) else -1 := by
  simp only [placeV]
  rw [idxN_eq]
  simp
theorem place6 {n : Int} {s p : List UInt8} {is : List Val} {ns : List (List UInt8)} : placeV (.mk 6 n s is ns) p = if Option.getD (idxB p) (-1) < (is.length : Int) then Option.getD (idxB p) (-1) else -1 := rfl
theorem placeO {k n : Int} {s p : List UInt8} {is : List Val} {ns : List (List UInt8)} (h6 : k ≠ 6) (h7 : k ≠ 7) : placeV (.mk k n s is ns) p = -1 := by
  have a : (k == 7) = false := by simpa using h7
  have b : (k == 6) = false := by simpa using h6
  simp only [placeV, a, b]
  simp
theorem may_inv7 {n : Int} {s : List UInt8} {is : List Val} {ns : List (List UInt8)} (h : mayV (.mk 7 n s is ns) = true) : n = 0 ∧ s = [] ∧ ns.length = is.length ∧ twiceB ns = false ∧ ns.all nameB = true ∧ ∀ v ∈ is, mayV v = true := by
  rw [mayV, mayL_all] at h
  simp only [shapeB, Bool.and_eq_true] at h
  simp at h
  refine ⟨h.2.1.1.1, h.2.1.1.2, h.2.1.2, h.2.2, ?_, h.1.1⟩
  simpa using h.1.2
theorem may_mk7 {is : List Val} {ns : List (List UInt8)} (h1 : ns.length = is.length) (h2 : twiceB ns = false) (h3 : ns.all nameB = true) (h4 : ∀ v ∈ is, mayV v = true) : mayV (.mk 7 0 [] is ns) = true := by
  rw [mayV, mayL_all, h3]
  simp [shapeB, h1, h2]
  exact h4
theorem may_inv6 {n : Int} {s : List UInt8} {is : List Val} {ns : List (List UInt8)} (h : mayV (.mk 6 n s is ns) = true) : n = 0 ∧ s = [] ∧ ns = [] ∧ ∀ v ∈ is, mayV v = true := by
  rw [mayV, mayL_all] at h
  simp only [shapeB, Bool.and_eq_true] at h
  simp at h
  exact ⟨h.2.1.1, h.2.1.2, h.2.2, h.1.1⟩
theorem may_mk6 {is : List Val} (h4 : ∀ v ∈ is, mayV v = true) : mayV (.mk 6 0 [] is []) = true := by
  rw [mayV, mayL_all]
  simp [shapeB]
  exact h4
theorem digsB_nn : ∀ (s : List UInt8) (n m : Int), 0 ≤ n → digsB s n = some m → 0 ≤ m
  | [], n, m, h, e => by simp [digsB] at e; omega
  | c :: r, n, m, h, e => by
    rw [digsB] at e
    split at e
    · cases e
    · rename_i hc
      simp at hc
      exact digsB_nn r _ m (by omega) e
theorem idxB_nn {s : List UInt8} {m : Int} (h : idxB s = some m) : 0 ≤ m := by
  unfold idxB at h
  split at h
  · cases h
  · exact digsB_nn s 0 m (by omega) h
theorem idxB_cases (p : List UInt8) : (idxB p = none ∧ Option.getD (idxB p) (-1) = -1) ∨ ∃ j : Nat, idxB p = some (j : Int) := by
  cases h : idxB p with
  | none => exact .inl ⟨rfl, rfl⟩
  | some m => exact .inr ⟨m.toNat, by rw [Int.toNat_of_nonneg (idxB_nn h)]⟩
theorem place_cases {v : Val} (hm : mayV v = true) (p : List UInt8) : placeV v p = -1 ∨ ∃ i y, placeV v p = ((i : Nat) : Int) ∧ (iV v)[i]? = some y ∧ y ∈ iV v ∧ mayV y = true := by
  obtain ⟨k, n, s, is, ns⟩ := v
  by_cases h7 : k = 7
  · subst h7
    obtain ⟨_, _, hl, _, _, hmi⟩ := may_inv7 hm
    rw [place7]
    split
    · rename_i hp
      have : ns.idxOf p < is.length := by rw [← hl]; exact List.idxOf_lt_length_of_mem hp
      exact .inr ⟨_, is[ns.idxOf p], rfl, List.getElem?_eq_getElem this, List.getElem_mem this, hmi _ (List.getElem_mem this)⟩
    · exact .inl rfl
  · by_cases h6 : k = 6
    · subst h6
      obtain ⟨_, _, _, hmi⟩ := may_inv6 hm
      rw [place6]
      rcases idxB_cases p with ⟨_, h⟩ | ⟨j, h⟩
      · rw [h]; left; split <;> rfl
      · rw [h]
        simp only [Option.getD_some]
        by_cases hj : (j : Int) < is.length
        · rw [if_pos hj]
          have : j < is.length := by omega
          exact .inr ⟨j, is[j], rfl, List.getElem?_eq_getElem this, List.getElem_mem this, hmi _ (List.getElem_mem this)⟩
        · rw [if_neg hj]; exact .inl rfl
    · exact .inl (placeO h6 h7)
theorem place_swap {v x : Val} {i : Nat} (p : List UInt8) : placeV (swapV v i x) p = placeV v p := by
  obtain ⟨k, n, s, is, ns⟩ := v
  simp only [swapV, placeV, List.length_set]
theorem items_swap {v x : Val} {i : Nat} : iV (swapV v i x) = (iV v).set i x := by obtain ⟨k, n, s, is, ns⟩ := v; rfl
theorem kind_swap {v x : Val} {i : Nat} : kV (swapV v i x) = kV v := by obtain ⟨k, n, s, is, ns⟩ := v; rfl
theorem swap_swap {v x y : Val} {i : Nat} : swapV (swapV v i x) i y = swapV v i y := by obtain ⟨k, n, s, is, ns⟩ := v; simp [swapV]
theorem swap_same {v y : Val} {i : Nat} (h : (iV v)[i]? = some y) : swapV v i y = v := by
  obtain ⟨k, n, s, is, ns⟩ := v
  obtain ⟨h1, h2⟩ := List.getElem?_eq_some_iff.1 h
  subst h2
  simp [swapV, iV]
theorem may_swap {v x : Val} {i : Nat} (hv : mayV v = true) (hx : mayV x = true) : mayV (swapV v i x) = true := by
  obtain ⟨k, n, s, is, ns⟩ := v
  rw [mayV, mayL_all] at hv
  rw [swapV, mayV, mayL_all, List.length_set]
  simp only [Bool.and_eq_true] at hv ⊢
  refine ⟨⟨?_, hv.1.2⟩, hv.2⟩
  rw [List.all_eq_true] at hv ⊢
  intro y hy
  rcases List.mem_or_eq_of_mem_set hy with hy | rfl
  · exact hv.1.1 y hy
  · exact hx
theorem twiceB_snoc (p : List UInt8) : ∀ (l : List (List UInt8)), p ∉ l → twiceB l = false → twiceB (l ++ [p]) = false
  | [], _, _ => rfl
  | x :: r, h, ht => by
    simp only [twiceB, Bool.or_eq_false_iff, List.contains_eq_mem, decide_eq_false_iff_not, List.cons_append, List.mem_append, List.mem_singleton, not_or] at ht ⊢
    simp only [List.mem_cons, not_or] at h
    exact ⟨⟨ht.1, fun e => h.1 e.symm⟩, twiceB_snoc p r h.2 ht.2⟩
theorem twiceB_erase : ∀ (l : List (List UInt8)) (i : Nat), twiceB l = false → twiceB (l.eraseIdx i) = false
  | [], _, _ => rfl
  | x :: r, 0, h => by simp only [twiceB, Bool.or_eq_false_iff] at h; exact h.2
  | x :: r, i + 1, h => by
    simp only [twiceB, Bool.or_eq_false_iff, List.contains_eq_mem, decide_eq_false_iff_not, List.eraseIdx_cons_succ] at h ⊢
    exact ⟨fun hx => h.1 (List.mem_of_mem_eraseIdx hx), twiceB_erase r i h.2⟩
theorem may_docV0 : mayV docV0 = true := rfl
theorem may_nullV : mayV nullV = true := rfl
theorem may_set {x : Val} (hx : mayV x = true) : ∀ (ps : List (List UInt8)) (v : Val), mayV v = true → ps.all nameB = true → mayV (setV ps v x).1 = true
  | [], v, hv, hp => hx
  | p :: r, v, hv, hp => by
    simp only [List.all_cons, Bool.and_eq_true] at hp
    rw [setV]
    rcases place_cases hv p with h | ⟨i, y, h, hi, _, hy⟩
    · rw [h, if_neg (by omega)]
      obtain ⟨k, n, s, is, ns⟩ := v
      by_cases h7 : k = 7
      · subst h7
        obtain ⟨rfl, rfl, hl, ht, hn, hmi⟩ := may_inv7 hv
        rw [if_pos (by rfl)]
        rw [place7] at h
        have hnot : p ∉ ns := by intro hm; rw [if_pos hm] at h; omega
        simp only [growV]
        refine may_mk7 (by simp [hl]) (by simpa using twiceB_snoc p ns hnot ht) (by simp [List.all_append] at hn ⊢; exact ⟨hn, hp.1⟩) fun y hy => ?_
        rcases List.mem_append.1 hy with hy | hy
        · exact hmi y hy
        · simp at hy; subst hy; exact may_set hx r docV0 may_docV0 hp.2
      · by_cases h6 : k = 6
        · subst h6
          obtain ⟨rfl, rfl, rfl, hmi⟩ := may_inv6 hv
          rw [if_neg (by simp [kV]), if_pos (by rfl)]
          simp only [growV]
          refine may_mk6 fun y hy => ?_
          rcases List.mem_append.1 hy with hy | hy
          · exact hmi y hy
          · simp at hy; subst hy; exact hx
        · have a : (k == 7) = false := by simpa using h7
          have b : (k == 6) = false := by simpa using h6
          simp only [kV, a, b, Bool.false_eq_true, if_false]
          exact hv
    · rw [h, if_pos (by omega), Int.toNat_natCast, hi]
      exact may_swap hv (may_set hx r y hy hp.2)
theorem kind_set {x : Val} {p : List UInt8} {r : List (List UInt8)} {v : Val} : kV (setV (p :: r) v x).1 = kV v := by
  rw [setV]
  split
  · split
    · exact kind_swap
    · rfl
  · split
    · obtain ⟨k, n, s, is, ns⟩ := v; rfl
    · split
      · obtain ⟨k, n, s, is, ns⟩ := v; rfl
      · rfl
theorem place_grow7 {s p : List UInt8} {is : List Val} {ns : List (List UInt8)} {n : Int} {x : Val} (hl : ns.length = is.length) (hnot : p ∉ ns) : placeV (growV (.mk 7 n s is ns) p x) p = (is.length : Int) := by
  simp only [growV]
  have e : ((7 : Int) == 7) = true := rfl
  rw [if_pos e, place7, if_pos (by simp), List.idxOf_append, if_neg hnot]
  simp [hl]
theorem set_laws {x : Val} (hx : mayV x = true) : ∀ (ps : List (List UInt8)) (v : Val), mayV v = true → ps.all nameB = true → (setV ps v x).2 = true →
    getV ps (setV ps v x).1 = some x ∧ setV ps (setV ps v x).1 x = ((setV ps v x).1, true)
  | [], v, hv, hp, h => ⟨rfl, rfl⟩
  | p :: r, v, hv, hp, h => by
    simp only [List.all_cons, Bool.and_eq_true] at hp
    rcases place_cases hv p with hpl | ⟨i, y, hpl, hi, _, hy⟩
    · obtain ⟨k, n, s, is, ns⟩ := v
      by_cases h7 : k = 7
      · subst h7
        obtain ⟨rfl, rfl, hl, ht, hn, hmi⟩ := may_inv7 hv
        have e : setV (p :: r) (.mk 7 0 [] is ns) x = (growV (.mk 7 0 [] is ns) p (setV r docV0 x).1, (setV r docV0 x).2) := by
          rw [setV, hpl, if_neg (by omega), if_pos (by rfl)]
        rw [e] at h ⊢
        have hnot : p ∉ ns := by intro hm; rw [place7, if_pos hm] at hpl; omega
        obtain ⟨a, b⟩ := set_laws hx r docV0 may_docV0 hp.2 h
        have hq : placeV (growV (.mk 7 0 [] is ns) p (setV r docV0 x).1) p = (is.length : Int) := place_grow7 hl hnot
        have hit : (iV (growV (.mk 7 0 [] is ns) p (setV r docV0 x).1))[is.length]? = some (setV r docV0 x).1 := by simp [growV, iV]
        have hit5 : (itemsV5 (growV (.mk 7 0 [] is ns) p (setV r docV0 x).1))[is.length]? = some (setV r docV0 x).1 := by simp [growV, itemsV5]
        constructor
        · rw [getV, hq, if_neg (by omega), Int.toNat_natCast, hit5]; exact a
        · rw [setV, hq, if_pos (by omega), Int.toNat_natCast, hit]
          simp only [b]
          rw [swap_same hit]
      · by_cases h6 : k = 6
        · subst h6
          have e : setV (p :: r) (.mk 6 n s is ns) x = (growV (.mk 6 n s is ns) [] x, (idxB p).isSome && Option.getD (idxB p) 0 == ((is.length : Nat) : Int) && r.isEmpty) := by
            rw [setV, hpl, if_neg (by omega), if_neg (by simp [kV]), if_pos (by rfl)]; rfl
          rw [e] at h ⊢
          simp only [Bool.and_eq_true, beq_iff_eq, List.isEmpty_iff] at h
          obtain ⟨⟨h1, h2⟩, rfl⟩ := h
          obtain ⟨m, hm⟩ := Option.isSome_iff_exists.1 h1
          rw [hm] at h2
          simp only [Option.getD_some] at h2
          have hq : placeV (growV (.mk 6 n s is ns) [] x) p = (is.length : Int) := by
            simp only [growV]
            rw [place6, hm, Option.getD_some, h2, if_pos (by simp; omega)]
          have hit : (iV (growV (.mk 6 n s is ns) [] x))[is.length]? = some x := by simp [growV, iV]
          have hit5 : (itemsV5 (growV (.mk 6 n s is ns) [] x))[is.length]? = some x := by simp [growV, itemsV5]
          constructor
          · rw [getV, hq, if_neg (by omega), Int.toNat_natCast, hit5]; rfl
          · rw [setV, hq, if_pos (by omega), Int.toNat_natCast, hit]
            simp only [setV]
            rw [swap_same hit]
        · have a : (k == 7) = false := by simpa using h7
          have b : (k == 6) = false := by simpa using h6
          rw [setV, hpl, if_neg (by omega)] at h
          simp [kV, a, b] at h
    · have e : setV (p :: r) v x = (swapV v i (setV r y x).1, (setV r y x).2) := by
        rw [setV, hpl, if_pos (by omega), Int.toNat_natCast, hi]
      rw [e] at h ⊢
      obtain ⟨a, b⟩ := set_laws hx r y hy hp.2 h
      have hlt := (List.getElem?_eq_some_iff.1 hi).1
      have hit : (iV (swapV v i (setV r y x).1))[i]? = some (setV r y x).1 := by rw [items_swap]; simp [hlt]
      have h5 : ∀ w : Val, itemsV5 w = iV w := fun w => by obtain ⟨_, _, _, _, _⟩ := w; rfl
      constructor
      · rw [getV, place_swap, hpl, if_neg (by omega), Int.toNat_natCast, h5, hit]; exact a
      · rw [setV, place_swap, hpl, if_pos (by omega), Int.toNat_natCast, hit]
        simp only [b]
        rw [swap_swap]
theorem setR_eq {x : Val} : ∀ (ps : List (List UInt8)) (v : Val), mayV v = true → (setR ps v x).2 = (setV ps v x).2 ∧ ((setV ps v x).2 = true → (setR ps v x).1 = (setV ps v x).1)
  | [], v, hv => ⟨rfl, fun _ => rfl⟩
  | p :: r, v, hv => by
    rw [setR, setV]
    rcases place_cases hv p with hpl | ⟨i, y, hpl, hi, _, hy⟩
    · have n1 : ((-1 : Int) < 0) := by omega
      have n2 : ¬ ((-1 : Int) ≥ 0) := by omega
      rw [hpl, if_pos n1, if_neg n2]
      split
      · obtain ⟨a, b⟩ := setR_eq r docV0 may_docV0 (x := x)
        exact ⟨a, fun h => by simp only; rw [b h]⟩
      · split
        · rcases idxB_cases p with ⟨h, _⟩ | ⟨j, h⟩
          · rw [h]
            have : ¬ ((-1 : Int) == ((iV v).length : Int)) = true := by simp <;> omega
            simp [this]
          · rw [h]
            simp only [Option.getD_some, Option.isSome_some, Bool.true_and]
            by_cases hr : r.isEmpty = true <;> by_cases hj : (j : Int) == ((iV v).length : Int) <;> simp [hr, hj]
        · exact ⟨rfl, fun _ => rfl⟩
    · have n1 : ¬ ((i : Int) < 0) := by omega
      have n2 : ((i : Int) ≥ 0) := by omega
      rw [hpl, if_neg n1, if_pos n2, Int.toNat_natCast, hi]
      obtain ⟨a, b⟩ := setR_eq r y hy (x := x)
      exact ⟨a, fun h => by simp only; rw [b h]⟩
end Go.LS
namespace Go.LS
theorem okW_get {B : Nat} : ∀ (ps : List (List UInt8)) (v a : Val), okW B v → getV ps v = some a → okW B a
  | [], v, a, h, e => by simp only [getV, Option.some.injEq] at e; subst e; exact h
  | p :: r, v, a, h, e => by
    rw [getV] at e
    split at e
    · cases e
    · split at e
      · rename_i x hx
        exact okW_get r x a (okW_items (i := (placeV v p).toNat) h (by obtain ⟨_, _, _, _, _⟩ := v; exact hx)) e
      · cases e
end Go.LS
set_option linter.unusedVariables false
set_option linter.unusedSimpArgs false
namespace Go.LS
theorem byte_inj {a b : UInt8} (h : a.toNat = b.toNat) : a = b := UInt8.toNat_inj.1 h
theorem digs1 {a : UInt8} {r : List UInt8} {n m : Int} (h : digsB (a :: r) n = some m) : 48 ≤ a.toNat ∧ a.toNat ≤ 57 ∧ digsB r (10 * n + ((a.toNat : Int) - 48)) = some m := by
  rw [digsB] at h
  split at h
  · cases h
  · rename_i q
    simp at q
    exact ⟨q.1, q.2, h⟩
theorem digs0 {n m : Int} (h : digsB [] n = some m) : n = m := by simpa [digsB] using h
theorem idxB_inj {s t : List UInt8} {m : Int} (hs : idxB s = some m) (ht : idxB t = some m) : s = t := by
  unfold idxB at hs ht
  split at hs
  · cases hs
  rename_i h1
  split at ht
  · cases ht
  rename_i h2
  simp only [Bool.or_eq_true, decide_eq_true_eq, Bool.and_eq_true, beq_iff_eq, not_or, not_and] at h1 h2
  match s, t, h1, h2, hs, ht with
  | [], _, h1, _, _, _ => simp at h1
  | _ :: _, [], _, h2, _, _ => simp at h2
  | [a], [b], h1, h2, hs, ht =>
    obtain ⟨a1, a2, hs⟩ := digs1 hs
    obtain ⟨b1, b2, ht⟩ := digs1 ht
    have := digs0 hs; have := digs0 ht
    rw [byte_inj (show a.toNat = b.toNat by omega)]
  | [a], b :: c :: r, h1, h2, hs, ht =>
    obtain ⟨a1, a2, hs⟩ := digs1 hs
    obtain ⟨b1, b2, ht⟩ := digs1 ht
    obtain ⟨c1, c2, ht⟩ := digs1 ht
    have := digs0 hs
    simp at h2
    match r, h2, ht with
    | [], h2, ht => have := digs0 ht; omega
    | [d], h2, ht =>
      obtain ⟨d1, d2, ht⟩ := digs1 ht
      have := digs0 ht; omega
    | _ :: _ :: _, h2, _ => simp at h2
  | b :: c :: r, [a], h2, h1, ht, hs =>
    obtain ⟨a1, a2, hs⟩ := digs1 hs
    obtain ⟨b1, b2, ht⟩ := digs1 ht
    obtain ⟨c1, c2, ht⟩ := digs1 ht
    have := digs0 hs
    simp at h2
    match r, h2, ht with
    | [], h2, ht => have := digs0 ht; omega
    | [d], h2, ht =>
      obtain ⟨d1, d2, ht⟩ := digs1 ht
      have := digs0 ht; omega
    | _ :: _ :: _, h2, _ => simp at h2
  | a :: b :: r, c :: d :: q, h1, h2, hs, ht =>
    obtain ⟨a1, a2, hs⟩ := digs1 hs
    obtain ⟨b1, b2, hs⟩ := digs1 hs
    obtain ⟨c1, c2, ht⟩ := digs1 ht
    obtain ⟨d1, d2, ht⟩ := digs1 ht
    simp at h1 h2
    match r, q, h1, h2, hs, ht with
    | [], [], h1, h2, hs, ht =>
      have := digs0 hs; have := digs0 ht
      rw [byte_inj (show a.toNat = c.toNat by omega), byte_inj (show b.toNat = d.toNat by omega)]
    | [], [e], h1, h2, hs, ht =>
      obtain ⟨e1, e2, ht⟩ := digs1 ht
      have := digs0 hs; have := digs0 ht; omega
    | [e], [], h1, h2, hs, ht =>
      obtain ⟨e1, e2, hs⟩ := digs1 hs
      have := digs0 hs; have := digs0 ht; omega
    | [e], [f], h1, h2, hs, ht =>
      obtain ⟨e1, e2, hs⟩ := digs1 hs
      obtain ⟨f1, f2, ht⟩ := digs1 ht
      have := digs0 hs; have := digs0 ht
      rw [byte_inj (show a.toNat = c.toNat by omega), byte_inj (show b.toNat = d.toNat by omega), byte_inj (show e.toNat = f.toNat by omega)]
    | _ :: _ :: _, _, h1, _, _, _ => simp at h1
    | _, _ :: _ :: _, _, h2, _, _ => simp at h2
theorem place_inj {v : Val} {a b : List UInt8} {i : Nat} (ha : placeV v a = (i : Int)) (hb : placeV v b = (i : Int)) : a = b := by
  obtain ⟨k, n, s, is, ns⟩ := v
  by_cases h7 : k = 7
  · subst h7
    rw [place7] at ha hb
    split at ha
    · rename_i h1
      split at hb
      · rename_i h2
        have e1 := List.getElem_idxOf (List.idxOf_lt_length_of_mem h1)
        have e2 := List.getElem_idxOf (List.idxOf_lt_length_of_mem h2)
        have e : ns.idxOf a = ns.idxOf b := by omega
        rw [← e1, ← e2]
        simp only [e]
      · omega
    · omega
  · by_cases h6 : k = 6
    · subst h6
      rw [place6] at ha hb
      rcases idxB_cases a with ⟨_, h⟩ | ⟨j, h⟩
      · rw [h] at ha; split at ha <;> omega
      · rcases idxB_cases b with ⟨_, g⟩ | ⟨l, g⟩
        · rw [g] at hb; split at hb <;> omega
        · rw [h, Option.getD_some] at ha
          rw [g, Option.getD_some] at hb
          split at ha
          · split at hb
            · exact idxB_inj h (by rw [g, show l = j by omega])
            · omega
          · omega
    · rw [placeO h6 h7] at ha; omega
theorem items5 (v : Val) : itemsV5 v = iV v := by obtain ⟨_, _, _, _, _⟩ := v; rfl
theorem getV_cons {p : List UInt8} {r : List (List UInt8)} {v : Val} : getV (p :: r) v = if placeV v p < 0 then none else (iV v)[(placeV v p).toNat]?.bind (getV r) := by
  rw [getV, items5]
  split
  · rfl
  · cases (iV v)[(placeV v p).toNat]? <;> rfl
theorem getV_doc0 {p : List UInt8} {r : List (List UInt8)} : getV (p :: r) docV0 = none := by
  rw [getV_cons]
  have : placeV docV0 p = -1 := by unfold docV0; rw [place7]; simp
  rw [this]; rfl
theorem get_other {v x : Val} {a b : List UInt8} {t : List (List UInt8)} {i : Nat} (ha : placeV v a = (i : Int)) (hab : a ≠ b) : getV (b :: t) (swapV v i x) = getV (b :: t) v := by
  rw [getV_cons, getV_cons, place_swap, items_swap]
  split
  · rfl
  · rename_i hb
    have : i ≠ (placeV v b).toNat := fun e => hab (place_inj ha (by rw [e]; omega))
    rw [List.getElem?_set_ne this]
theorem isPrefixOf_cons {a b : List UInt8} {r t : List (List UInt8)} : (a :: r).isPrefixOf (b :: t) = (a == b && r.isPrefixOf t) := rfl
theorem set_keeps {x : Val} : ∀ (p q : List (List UInt8)) (v : Val), mayV v = true → (setV p v x).2 = true → p.isPrefixOf q = false → q.isPrefixOf p = false → getV q (setV p v x).1 = getV q v
  | [], q, v, hv, h, h1, h2 => by simp [List.isPrefixOf] at h1
  | a :: r, [], v, hv, h, h1, h2 => by simp [List.isPrefixOf] at h2
  | a :: r, b :: t, v, hv, h, h1, h2 => by
    rw [isPrefixOf_cons] at h1 h2
    rcases place_cases hv a with hpl | ⟨i, y, hpl, hi, _, hy⟩
    · have n2 : ¬ ((-1 : Int) ≥ 0) := by omega
      obtain ⟨k, n, s, is, ns⟩ := v
      by_cases h7 : k = 7
      · subst h7
        obtain ⟨rfl, rfl, hl, ht, hn, hmi⟩ := may_inv7 hv
        have e : setV (a :: r) (.mk 7 0 [] is ns) x = (growV (.mk 7 0 [] is ns) a (setV r docV0 x).1, (setV r docV0 x).2) := by
          rw [setV, hpl, if_neg n2, if_pos (by rfl)]
        rw [e] at h ⊢
        have hnot : a ∉ ns := by intro hm; rw [place7, if_pos hm] at hpl; omega
        by_cases hab : a = b
        · subst hab
          rw [getV_cons, place_grow7 hl hnot, if_neg (by omega), Int.toNat_natCast]
          have hit : (iV (growV (.mk 7 0 [] is ns) a (setV r docV0 x).1))[is.length]? = some (setV r docV0 x).1 := by simp [growV, iV]
          rw [hit, Option.bind_some, getV_cons, hpl, if_pos (by omega)]
          simp only [beq_self_eq_true, Bool.true_and] at h1 h2
          rw [set_keeps r t docV0 may_docV0 h h1 h2]
          cases t with
          | nil => simp [List.isPrefixOf] at h2
          | cons c t => exact getV_doc0
        · have hb : placeV (growV (.mk 7 0 [] is ns) a (setV r docV0 x).1) b = placeV (.mk 7 0 [] is ns) b := by
            simp only [growV]
            have e7 : ((7 : Int) == 7) = true := rfl
            rw [if_pos e7, place7, place7]
            have : (b ∈ ns ++ [a]) ↔ b ∈ ns := by simp; exact fun e => absurd e.symm hab
            by_cases hm : b ∈ ns
            · rw [if_pos (this.2 hm), if_pos hm, List.idxOf_append, if_pos hm]
            · rw [if_neg (fun q => hm (this.1 q)), if_neg hm]
          rw [getV_cons, getV_cons, hb]
          split
          · rfl
          · rename_i hge
            rcases place_cases hv b with hb1 | ⟨j, z, hb1, hj, _, _⟩
            · omega
            · rw [hb1, Int.toNat_natCast]
              have hlt := (List.getElem?_eq_some_iff.1 hj).1
              have : (iV (growV (.mk 7 0 [] is ns) a (setV r docV0 x).1))[j]? = (iV (.mk 7 0 [] is ns))[j]? := by
                simp only [growV, iV] at hlt ⊢
                rw [List.getElem?_append_left hlt]
              rw [this]
      · by_cases h6 : k = 6
        · subst h6
          have e : setV (a :: r) (.mk 6 n s is ns) x = (growV (.mk 6 n s is ns) [] x, (idxB a).isSome && Option.getD (idxB a) 0 == ((is.length : Nat) : Int) && r.isEmpty) := by
            rw [setV, hpl, if_neg n2, if_neg (by simp [kV]), if_pos (by rfl)]; rfl
          rw [e] at h ⊢
          simp only [Bool.and_eq_true, beq_iff_eq, List.isEmpty_iff] at h
          obtain ⟨⟨g1, g2⟩, rfl⟩ := h
          have hab : a ≠ b := by rintro rfl; simp at h1
          obtain ⟨m, hm⟩ := Option.isSome_iff_exists.1 g1
          rw [hm, Option.getD_some] at g2
          subst g2
          have hb : placeV (growV (.mk 6 n s is ns) [] x) b = placeV (.mk 6 n s is ns) b := by
            simp only [growV]
            rw [place6, place6]
            rcases idxB_cases b with ⟨_, g⟩ | ⟨l, g⟩
            · rw [g]; simp only [List.length_append]; split <;> split <;> omega
            · rw [g, Option.getD_some]
              have : l ≠ is.length := fun e => hab (idxB_inj hm (by rw [g, e]))
              simp only [List.length_append, List.length_cons, List.length_nil]
              by_cases hlt : (l : Int) < is.length
              · rw [if_pos hlt, if_pos (by omega)]
              · rw [if_neg hlt, if_neg (by omega)]
          rw [getV_cons, getV_cons, hb]
          split
          · rfl
          · rename_i hge
            rcases place_cases hv b with hb1 | ⟨j, z, hb1, hj, _, _⟩
            · omega
            · rw [hb1, Int.toNat_natCast]
              have hlt := (List.getElem?_eq_some_iff.1 hj).1
              have : (iV (growV (.mk 6 n s is ns) [] x))[j]? = (iV (.mk 6 n s is ns))[j]? := by
                simp only [growV, iV] at hlt ⊢
                rw [List.getElem?_append_left hlt]
              rw [this]
        · have a7 : (k == 7) = false := by simpa using h7
          have b6 : (k == 6) = false := by simpa using h6
          rw [setV, hpl, if_neg n2] at h
          simp [kV, a7, b6] at h
    · have e : setV (a :: r) v x = (swapV v i (setV r y x).1, (setV r y x).2) := by
        have n2 : ((i : Int) ≥ 0) := by omega
        rw [setV, hpl, if_pos n2, Int.toNat_natCast, hi]
      rw [e] at h ⊢
      by_cases hab : a = b
      · subst hab
        simp only [beq_self_eq_true, Bool.true_and] at h1 h2
        have hlt := (List.getElem?_eq_some_iff.1 hi).1
        have hit : (iV (swapV v i (setV r y x).1))[i]? = some (setV r y x).1 := by rw [items_swap]; simp [hlt]
        rw [getV_cons, getV_cons, place_swap, hpl, if_neg (by omega), if_neg (by omega), Int.toNat_natCast, hit, hi, Option.bind_some, Option.bind_some]
        exact set_keeps r t y hy h h1 h2
      · exact get_other hpl hab
structure Chg (f : Val → Nat → Val) : Prop where
  may : ∀ v i y, mayV v = true → (∃ p, placeV v p = ((i : Nat) : Int)) → (iV v)[i]? = some y → mayV (f v i) = true
  other : ∀ v i y a b t, mayV v = true → placeV v a = ((i : Nat) : Int) → (iV v)[i]? = some y → a ≠ b → getV (b :: t) (f v i) = getV (b :: t) v
  kind : ∀ v i, kV (f v i) = kV v
  twice : ∀ v i y a, mayV v = true → placeV v a = ((i : Nat) : Int) → (iV v)[i]? = some y → atV f [a] (f v i) = f v i
theorem atV_one {f : Val → Nat → Val} {a : List UInt8} {v : Val} : atV f [a] v = if placeV v a < 0 then v else f v (placeV v a).toNat := by rw [atV]
theorem atV_two {f : Val → Nat → Val} {a b : List UInt8} {t : List (List UInt8)} {v y : Val} {i : Nat} (h : placeV v a = (i : Int)) (hi : (iV v)[i]? = some y) : atV f (a :: b :: t) v = swapV v i (atV f (b :: t) y) := by
  rw [atV, h, if_neg (by omega), Int.toNat_natCast, hi]
theorem atV_none {f : Val → Nat → Val} {a : List UInt8} {t : List (List UInt8)} {v : Val} (h : placeV v a = -1) : atV f (a :: t) v = v := by
  cases t <;> rw [atV, h, if_pos (by omega)]
theorem at_may {f : Val → Nat → Val} (hf : Chg f) : ∀ (p : List (List UInt8)) (v : Val), mayV v = true → mayV (atV f p v) = true
  | [], v, hv => hv
  | [a], v, hv => by
    rcases place_cases hv a with h | ⟨i, y, h, hi, _, hy⟩
    · rw [atV_none h]; exact hv
    · rw [atV_one, h, if_neg (by omega), Int.toNat_natCast]; exact hf.may v i y hv ⟨a, h⟩ hi
  | a :: b :: t, v, hv => by
    rcases place_cases hv a with h | ⟨i, y, h, hi, _, hy⟩
    · rw [atV_none h]; exact hv
    · rw [atV_two h hi]; exact may_swap hv (at_may hf (b :: t) y hy)
theorem at_kind {f : Val → Nat → Val} (hf : Chg f) {p : List (List UInt8)} {v : Val} (hv : mayV v = true) : kV (atV f p v) = kV v := by
  match p with
  | [] => rfl
  | [a] =>
    rcases place_cases hv a with h | ⟨i, y, h, hi, _, hy⟩
    · rw [atV_none h]
    · rw [atV_one, h, if_neg (by omega), Int.toNat_natCast]; exact hf.kind v i
  | a :: b :: t =>
    rcases place_cases hv a with h | ⟨i, y, h, hi, _, hy⟩
    · rw [atV_none h]
    · rw [atV_two h hi]; exact kind_swap
theorem at_twice {f : Val → Nat → Val} (hf : Chg f) : ∀ (p : List (List UInt8)) (v : Val), mayV v = true → atV f p (atV f p v) = atV f p v
  | [], v, hv => rfl
  | [a], v, hv => by
    rcases place_cases hv a with h | ⟨i, y, h, hi, _, hy⟩
    · rw [atV_none h, atV_none h]
    · have e : atV f [a] v = f v i := by rw [atV_one, h, if_neg (by omega), Int.toNat_natCast]
      rw [e]; exact hf.twice v i y a hv h hi
  | a :: b :: t, v, hv => by
    rcases place_cases hv a with h | ⟨i, y, h, hi, _, hy⟩
    · rw [atV_none h, atV_none h]
    · rw [atV_two h hi]
      have hlt := (List.getElem?_eq_some_iff.1 hi).1
      have hit : (iV (swapV v i (atV f (b :: t) y)))[i]? = some (atV f (b :: t) y) := by rw [items_swap]; simp [hlt]
      rw [atV_two (by rw [place_swap]; exact h) hit, at_twice hf (b :: t) y hy, swap_swap]
theorem at_keeps {f : Val → Nat → Val} (hf : Chg f) : ∀ (p q : List (List UInt8)) (v : Val), mayV v = true → p.isPrefixOf q = false → q.isPrefixOf p = false → getV q (atV f p v) = getV q v
  | [], q, v, hv, h1, h2 => by simp [List.isPrefixOf] at h1
  | a :: r, [], v, hv, h1, h2 => by simp [List.isPrefixOf] at h2
  | [a], b :: t, v, hv, h1, h2 => by
    have hab : a ≠ b := by rintro rfl; simp at h1
    rcases place_cases hv a with h | ⟨i, y, h, hi, _, hy⟩
    · rw [atV_none h]
    · rw [atV_one, h, if_neg (by omega), Int.toNat_natCast]; exact hf.other v i y a b t hv h hi hab
  | a :: c :: r, b :: t, v, hv, h1, h2 => by
    rw [isPrefixOf_cons] at h1 h2
    rcases place_cases hv a with h | ⟨i, y, h, hi, _, hy⟩
    · rw [atV_none h]
    · rw [atV_two h hi]
      by_cases hab : a = b
      · subst hab
        simp only [beq_self_eq_true, Bool.true_and] at h1 h2
        have hlt := (List.getElem?_eq_some_iff.1 hi).1
        have hit : (iV (swapV v i (atV f (c :: r) y)))[i]? = some (atV f (c :: r) y) := by rw [items_swap]; simp [hlt]
        rw [getV_cons, getV_cons, place_swap, h, if_neg (by omega), if_neg (by omega), Int.toNat_natCast, hit, hi, Option.bind_some, Option.bind_some]
        exact at_keeps hf (c :: r) t y hy h1 h2
      · exact get_other h hab
theorem idxOf_erase {b a : List UInt8} : ∀ (l : List (List UInt8)) (i : Nat), l[i]? = some a → a ≠ b → (b ∈ l.eraseIdx i ↔ b ∈ l) ∧ ∀ {α : Type} (is : List α), is.length = l.length → b ∈ l → (is.eraseIdx i)[(l.eraseIdx i).idxOf b]? = is[l.idxOf b]?
  | [], i, h, _ => by simp at h
  | x :: r, 0, h, hab => by
    simp at h; subst h
    refine ⟨by simp; exact fun e => absurd e.symm hab, fun is hl hb => ?_⟩
    cases is with
    | nil => simp at hl
    | cons y q =>
      have hx : (x == b) = false := by simpa using hab
      simp only [List.eraseIdx_zero, List.tail_cons, List.idxOf_cons, hx, cond_false, List.getElem?_cons_succ]
  | x :: r, i + 1, h, hab => by
    obtain ⟨a1, a2⟩ := idxOf_erase r i (by simpa using h) hab
    refine ⟨by simp only [List.eraseIdx_cons_succ, List.mem_cons, a1], fun is hl hb => ?_⟩
    cases is with
    | nil => simp at hl
    | cons y q =>
      simp only [List.eraseIdx_cons_succ, List.idxOf_cons]
      by_cases hx : (x == b) = true
      · simp [hx]
      · have hx' : (x == b) = false := by simpa using hx
        have hbr : b ∈ r := by
          rcases List.mem_cons.1 hb with e | e
          · subst e; simp at hx'
          · exact e
        simp only [hx', cond_false, List.getElem?_cons_succ]
        exact a2 q (by simpa using hl) hbr
theorem idxOf_get {l : List (List UInt8)} {a : List UInt8} (h : a ∈ l) : l[l.idxOf a]? = some a := by
  rw [List.getElem?_eq_getElem (List.idxOf_lt_length_of_mem h)]
  simp
theorem erase_nm : ∀ (l : List (List UInt8)), twiceB l = false → ∀ a, a ∉ l.eraseIdx (l.idxOf a)
  | [], _, a => by simp
  | x :: r, h, a => by
    simp only [twiceB, Bool.or_eq_false_iff, List.contains_eq_mem, decide_eq_false_iff_not] at h
    rw [List.idxOf_cons]
    by_cases hx : (x == a) = true
    · have := eq_of_beq hx; subst this
      simp only [beq_self_eq_true, cond_true, List.eraseIdx_zero, List.tail_cons]; exact h.1
    · have hx' : (x == a) = false := by simpa using hx
      simp only [hx', cond_false, List.eraseIdx_cons_succ, List.mem_cons, not_or]
      exact ⟨fun e => by subst e; simp at hx', erase_nm r h.2 a⟩
theorem without_chg : Chg withoutV where
  may := by
    intro v i y hv hp hi
    obtain ⟨k, n, s, is, ns⟩ := v
    rw [withoutV]
    split
    · exact may_swap (v := .mk k n s is ns) hv may_nullV
    · rename_i h6
      obtain ⟨p, hp⟩ := hp
      by_cases h7 : k = 7
      · subst h7
        obtain ⟨rfl, rfl, hl, ht, hn, hmi⟩ := may_inv7 hv
        refine may_mk7 ?_ (twiceB_erase ns i ht) ?_ fun z hz => hmi z (List.mem_of_mem_eraseIdx hz)
        · rw [List.length_eraseIdx, List.length_eraseIdx, hl]
        · rw [List.all_eq_true] at hn ⊢; exact fun z hz => hn z (List.mem_of_mem_eraseIdx hz)
      · rw [placeO (by simpa using h6) h7] at hp; omega
  other := by
    intro v i y a b t hv ha hi hab
    obtain ⟨k, n, s, is, ns⟩ := v
    rw [withoutV]
    split
    · exact get_other (v := .mk k n s is ns) ha hab
    · rename_i h6
      by_cases h7 : k = 7
      · subst h7
        obtain ⟨rfl, rfl, hl, ht, hn, hmi⟩ := may_inv7 hv
        rw [place7] at ha
        split at ha
        · rename_i ham
          have ei : i = ns.idxOf a := by omega
          obtain ⟨a1, a2⟩ := idxOf_erase (b := b) (a := a) ns i (by rw [ei]; exact idxOf_get ham) hab
          rw [getV_cons, getV_cons, place7, place7]
          by_cases hb : b ∈ ns
          · rw [if_pos (a1.2 hb), if_pos hb, if_neg (by omega), if_neg (by omega), Int.toNat_natCast, Int.toNat_natCast]
            simp only [iV]
            rw [a2 is hl.symm hb]
          · rw [if_neg (fun q => hb (a1.1 q)), if_neg hb, if_pos (by omega), if_pos (by omega)]
        · omega
      · rw [placeO (by simpa using h6) h7] at ha; omega
  kind := by intro v i; obtain ⟨k, n, s, is, ns⟩ := v; rw [withoutV]; split <;> rfl
  twice := by
    intro v i y a hv ha hi
    obtain ⟨k, n, s, is, ns⟩ := v
    have e : withoutV (.mk k n s is ns) i = if k == 6 then swapV (.mk k n s is ns) i nullV else .mk k n s (is.eraseIdx i) (ns.eraseIdx i) := rfl
    rw [e]
    split
    · rename_i h6
      rw [atV_one, place_swap, ha, if_neg (by omega), Int.toNat_natCast]
      simp only [swapV, withoutV, h6, if_true, List.set_set]
    · rename_i h6
      by_cases h7 : k = 7
      · subst h7
        obtain ⟨rfl, rfl, hl, ht, hn, hmi⟩ := may_inv7 hv
        rw [place7] at ha
        split at ha
        · rename_i ham
          have ei : i = ns.idxOf a := by omega
          have hnot : a ∉ ns.eraseIdx i := by
            rw [ei]
            exact erase_nm ns ht a
          rw [atV_none]
          rw [place7, if_neg hnot]
        · omega
      · rw [placeO (by simpa using h6) h7] at ha; omega
theorem may_cutArr {k m : Int} {s : List UInt8} {is : List Val} {ns : List (List UInt8)} {c : Nat} (h6 : (k == 6) = true) (h : mayV (.mk k m s is ns) = true) : mayV (.mk k m s (is.take c) ns) = true := by
  have e := eq_of_beq h6
  subst e
  obtain ⟨rfl, rfl, rfl, hmi⟩ := may_inv6 h
  exact may_mk6 fun y hy => hmi y (List.mem_of_mem_take hy)
theorem cutV_eq {c : Int} {v y : Val} {i : Nat} (hi : (iV v)[i]? = some y) : cutV c v i = if kV y == 6 && decide (((iV y).length : Int) > c) then swapV v i (.mk (kV y) (nV y) (sV y) ((iV y).take c.toNat) (mV y)) else v := by
  obtain ⟨k, n, s, is, ns⟩ := v
  obtain ⟨ky, ny, sy, iy, my⟩ := y
  simp only [iV] at hi
  simp only [cutV, hi, kV, iV, nV, sV, mV, swapV]
  rfl
theorem cut_chg {c : Int} (hc : 0 ≤ c) : Chg (cutV c) where
  may := by
    intro v i y hv hp hi
    have hy : mayV y = true := by
      obtain ⟨k, n, s, is, ns⟩ := v
      rw [mayV, mayL_all] at hv
      simp only [Bool.and_eq_true, List.all_eq_true] at hv
      exact hv.1.1 y (List.mem_of_getElem? hi)
    rw [cutV_eq hi]
    split
    · rename_i h
      simp only [Bool.and_eq_true] at h
      refine may_swap hv ?_
      obtain ⟨ky, ny, sy, iy, my⟩ := y
      exact may_cutArr h.1 hy
    · exact hv
  other := by
    intro v i y a b t hv ha hi hab
    rw [cutV_eq hi]
    split
    · exact get_other ha hab
    · rfl
  kind := by
    intro v i
    cases hi : (iV v)[i]? with
    | none => obtain ⟨k, n, s, is, ns⟩ := v; simp only [iV] at hi; simp only [cutV, hi, kV]
    | some y =>
      rw [cutV_eq hi]
      split
      · exact kind_swap
      · rfl
  twice := by
    intro v i y a hv ha hi
    rw [cutV_eq hi]
    split
    · rename_i h
      have hlt := (List.getElem?_eq_some_iff.1 hi).1
      rw [atV_one, place_swap, ha, if_neg (by omega), Int.toNat_natCast]
      rw [cutV_eq (y := .mk (kV y) (nV y) (sV y) ((iV y).take c.toNat) (mV y)) (by rw [items_swap]; simp [hlt])]
      rw [if_neg]
      simp only [iV, List.length_take, Bool.and_eq_true, decide_eq_true_eq, not_and]
      intro _
      omega
    · rename_i h
      rw [atV_one, ha, if_neg (by omega), Int.toNat_natCast, cutV_eq hi, if_neg h]
theorem cut_set {c : Int} : ∀ (p : List (List UInt8)) (v : Val), p ≠ [] → mayV v = true → (∀ a, getV p v = some a → (kV a == 6 && decide (((iV a).length : Int) > c)) = true → (setV p v (.mk (kV a) (nV a) (sV a) ((iV a).take c.toNat) (mV a))).1 = atV (cutV c) p v) ∧
    ((∀ a, getV p v = some a → (kV a == 6 && decide (((iV a).length : Int) > c)) = false) → atV (cutV c) p v = v)
  | [], v, hne, hv => absurd rfl hne
  | [a], v, hne, hv => by
    rcases place_cases hv a with h | ⟨i, y, h, hi, _, hy⟩
    · refine ⟨fun x hx => ?_, fun _ => atV_none h⟩
      rw [getV_cons, h, if_pos (by omega)] at hx; cases hx
    · have n2 : ((i : Int) ≥ 0) := by omega
      have hg : getV [a] v = some y := by rw [getV_cons, h, if_neg (by omega), Int.toNat_natCast, hi]; rfl
      rw [atV_one, h, if_neg (by omega), Int.toNat_natCast, cutV_eq hi]
      refine ⟨fun x hx hc => ?_, fun hc => ?_⟩
      · rw [hg] at hx
        cases hx
        rw [if_pos hc, setV, h, if_pos n2, Int.toNat_natCast, hi]
        rfl
      · rw [if_neg (by rw [hc y hg]; simp)]
  | a :: b :: t, v, hne, hv => by
    rcases place_cases hv a with h | ⟨i, y, h, hi, _, hy⟩
    · refine ⟨fun x hx => ?_, fun _ => atV_none h⟩
      rw [getV_cons, h, if_pos (by omega)] at hx; cases hx
    · have n2 : ((i : Int) ≥ 0) := by omega
      have hg : getV (a :: b :: t) v = getV (b :: t) y := by rw [getV_cons, h, if_neg (by omega), Int.toNat_natCast, hi]; rfl
      obtain ⟨l1, l2⟩ := cut_set (c := c) (b :: t) y (by simp) hy
      rw [atV_two h hi, hg]
      refine ⟨fun x hx hc => ?_, fun hc => ?_⟩
      · rw [setV, h, if_pos n2, Int.toNat_natCast, hi]
        simp only [l1 x hx hc]
      · rw [l2 hc, swap_same hi]
end Go.LS
namespace Go.LS
theorem set_ok {x : Val} : ∀ (ps : List (List UInt8)) (v a : Val), mayV v = true → getV ps v = some a → (setV ps v x).2 = true
  | [], v, a, hv, h => rfl
  | p :: r, v, a, hv, h => by
    rw [getV_cons] at h
    rcases place_cases hv p with hp | ⟨i, y, hp, hi, _, hy⟩
    · rw [hp, if_pos (by omega)] at h; cases h
    · have n2 : ((i : Int) ≥ 0) := by omega
      rw [hp, if_neg (by omega), Int.toNat_natCast, hi, Option.bind_some] at h
      rw [setV, hp, if_pos n2, Int.toNat_natCast, hi]
      exact set_ok r y a hy h
theorem etaV (v : Val) : Val.mk (kV v) (nV v) (sV v) (iV v) (mV v) = v := by obtain ⟨_, _, _, _, _⟩ := v; rfl
def dropT (e : Int) (ps : List (List UInt8)) (v : Val) : Val × Int := if (e == 0) = true then (atV withoutV ps v, 0) else (zeroV, e)
def cutT (e : Int) (ps : List (List UInt8)) (v : Val) (n : Int) : Val × Int := if (e == 0) = true then (if decide (n < 0) = true then (zeroV, 1) else (atV (cutV n) ps v, 0)) else (zeroV, e)
def setT (e : Int) (ps : List (List UInt8)) (v x : Val) : Val × Int :=
  if (kV v == 7 && !mayV x) = true then (zeroV, 20) else if (e == 0) = true then (if (setV ps v x).2 = true then ((setV ps v x).1, 0) else (zeroV, 40)) else (zeroV, e)
end Go.LS

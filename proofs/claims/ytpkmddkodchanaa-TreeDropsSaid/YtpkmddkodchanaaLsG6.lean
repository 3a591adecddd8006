/- A small semantics of loaded Go code that the kernel can run, part 6. -/
import Derived.Test.YtpkmddkodchanaaLsG5
set_option linter.unusedVariables false
set_option linter.unusedSimpArgs false
namespace Go.LS
theorem O0 {o n : Nat} {X : List (List PV)} {st : List LObj} (hs : st[o]? = some (.row (Ai X))) (hn : n = X.length) : E5 st (.rs o 0 n) = (.p (.sl X), st.set o .dead) := by
 subst hn
 have e : ((Ai X).drop 0).take X.length = Ai X := by rw [List.drop_zero, Fk, List.take_length]
 have hl : 0 + X.length ≤ (Ai X).length := by rw [Ba]; omega
 simp only [E5, hs, if_pos hl, e, Ew]
theorem Rs {o n : Nat} {X Y : List (List PV)} {st : List LObj} (hs : st[o]? = some (.row (Ai X))) (hn : n ≤ X.length) (hx : X.take n = Y) : E5 st (.rs o 0 n) = (.p (.sl Y), st.set o .dead) := by
 subst hx
 have e : ((Ai X).drop 0).take n = Ai (X.take n) := by rw [List.drop_zero, Fk]
 have hl : 0 + n ≤ (Ai X).length := by rw [Ba]; omega
 simp only [E5, hs, if_pos hl, e, Ew]
theorem C1 {o n : Nat} {X : List (List PV)} {st : List LObj} {a b : List LV} (ha : a.all Gs = true) (hb : b.all Gs = true) (hs : st[o]? = some (.row (Ai X))) (hn : n = X.length) :
  frz true st [.agg (a ++ .rs o 0 n :: b)] = ([.agg (a.map LV.weak1 ++ .p (.sl X) :: b.map LV.weak1)], st.set o .dead) := by
 have e : Co st (a ++ .rs o 0 n :: b) = (a.map LV.weak1 ++ .p (.sl X) :: b.map LV.weak1, st.set o .dead) := by
  rw [G8, B3 st a ha]
  simp only [Co, O0 hs hn, B3 _ b hb]
 simp only [frz, H6, Kf, e]
theorem M4 {o n : Nat} {X : List (List PV)} {st : List LObj} {a b : List LV} (ha : a.all Gs = true) (hb : b.all Gs = true) (hs : st[o]? = some (.row (Ai X))) (hn : n = X.length) :
  M8 st (.agg (a ++ .rs o 0 n :: b)) = (.agg (a.map LV.weak1 ++ .p (.sl X) :: b.map LV.weak1), st.set o .dead) := by
 have e : Co st (a ++ .rs o 0 n :: b) = (a.map LV.weak1 ++ .p (.sl X) :: b.map LV.weak1, st.set o .dead) := by
  rw [G8, B3 st a ha]
  simp only [Co, O0 hs hn, B3 _ b hb]
 simp only [M8, Kf, e]
theorem M5 {lp : A3} {f : FuncId} {args args' : List LV} {st sh st1 st' sub' : List LObj} {r v : LV} {ids : List Nat} (hr : st.map LObj.refs = sh.map LObj.refs) (hw : wk (lp.weak f) args = args)
  (hi : Dn sh 100000 (args.flatMap LV.refs) [] = ids) (hc : (C9 sh ids && (args.flatMap LV.refs).all (ids.contains ·) && decide ids.Nodup) = true)
  (ha : args.map (LV.ren fun q => ids.idxOf q) = args') (hs : sub st ids = sub') (h : Runs lp f args' sub' (r, st1)) (hl : decide (ids.length ≤ st1.length) = true) (hv : r.ren (Cu ids st.length) = v)
  (hp : Cf st ids ((st1.take ids.length).map (LObj.ren (Cu ids st.length))) ++ (st1.drop ids.length).map (LObj.ren (Cu ids st.length)) = st') : Cr lp f args st (v, st') := by
 obtain ⟨n, hn⟩ := Runs.at h
 refine ⟨n, fun m hm => ?_⟩
 unfold Bw
 simp only
 rw [I6, hw, Oq hr, hi, Mx hr, if_pos hc, ha, hs, hn m hm]
 simp only
 rw [if_pos (of_decide_eq_true hl), hv, hp]
section
variable {o n size : Nat} {X : List (List PV)} {st : List LObj}
theorem Ec {k : Nat} {j : Int} {e : List PV} (hs : st[o]? = some (.row (Ai X))) (hk : k ≤ X.length) (hn : n ≤ X.length) (he : X[0]? = some e) (hz : e.length = size) (hj : j = (k : Int)) :
  Ae Ar [] st (.slice size (.const (.rs o 0 n)) none (some (.const (.p (.int .i64 j)))) none) = some (.rs o 0 k, st) := Nx hs hk hn he hz hj
theorem I1 {k : Nat} {j : Int} {e : List PV} (hs : st[o]? = some (.row (Ai X))) (hk : k < X.length) (hn : n = X.length) (he : X[0]? = some e) (hz : e.length = size) (hj : j = (k : Int)) :
  Ae Ar [] st (.slice size (.const (.rs o 0 n)) (some (.const (.p (.int .i64 j)))) none none) = some (.rs o k (n - k), st) := by
 subst hj hn
 have h1 : 0 ≤ (k : Int) ∧ (k : Int) ≤ (X.length : Int) := by omega
 have h3 : k < (Ai X).length - 0 ∧ 0 + X.length ≤ (Ai X).length := by rw [Ba]; omega
 simp only [Ae, LX.ev, Dr, bnd, Option.map_none, Option.map_some, hs]
 rw [if_pos h1]
 simp only [Int.toNat_natCast]
 rw [if_pos h3]
 simp only [Gr he, List.length_map, hz, if_true, Nat.zero_add]
theorem Hm {k : Nat} {j : Int} (hs : st[o]? = some (.row (Ai X))) (hk : k = X.length) (hn : n = X.length) (hj : j = (k : Int)) :
  Ae Ar [] st (.slice size (.const (.rs o 0 n)) (some (.const (.p (.int .i64 j)))) none none) = some (.p (.sl []), st) := by
 subst hj hn hk
 have h1 : 0 ≤ (X.length : Int) ∧ (X.length : Int) ≤ (X.length : Int) := by omega
 have h3 : ¬ (X.length < (Ai X).length - 0 ∧ 0 + X.length ≤ (Ai X).length) := by rw [Ba]; omega
 have h4 : X.length = (Ai X).length - 0 ∧ 0 + X.length ≤ (Ai X).length := by rw [Ba]; omega
 simp only [Ae, LX.ev, Dr, bnd, Option.map_none, Option.map_some, hs]
 rw [if_pos h1]
 simp only [Int.toNat_natCast]
 rw [if_neg h3, if_pos h4]
theorem Ed {k h : Nat} {j i : Int} {e : List PV} (hs : st[o]? = some (.row (Ai X))) (hk : k < X.length) (hkh : k ≤ h) (hh : h ≤ X.length) (hn : n ≤ X.length) (he : X[0]? = some e) (hz : e.length = size) (hj : j = (k : Int)) (hi : i = (h : Int)) :
  Ae Ar [] st (.slice size (.const (.rs o 0 n)) (some (.const (.p (.int .i64 j)))) (some (.const (.p (.int .i64 i)))) none) = some (.rs o k (h - k), st) := by
 subst hj hi
 have h0 : 0 ≤ (h : Int) ∧ (h : Int) ≤ (((Ai X).length - 0 : Nat) : Int) := by rw [Ba]; omega
 have h1 : 0 ≤ (k : Int) ∧ (k : Int) ≤ (h : Int) := by omega
 have h3 : k < (Ai X).length - 0 ∧ 0 + n ≤ (Ai X).length := by rw [Ba]; omega
 simp only [Ae, LX.ev, Dr, bnd, Option.map_none, Option.map_some, hs]
 rw [if_pos h0]
 simp only [Int.toNat_natCast]
 rw [if_pos h1]
 simp only
 rw [if_pos h3]
 simp only [Gr he, List.length_map, hz, if_true, Nat.zero_add]
theorem E4 {k h m : Nat} {j i l : Int} (hs : st[o]? = some (.row (Ai X))) (hkh : k ≤ h) (hh : h ≤ m) (hm : m ≤ X.length) (hkm : k < m) (hn : n ≤ X.length) (hj : j = (k : Int)) (hi : i = (h : Int)) (hl : l = (m : Int)) :
  Ae Ar [] st (.slice size (.const (.rs o 0 n)) (some (.const (.p (.int .i64 j)))) (some (.const (.p (.int .i64 i)))) (some (.const (.p (.int .i64 l))))) = some (.und, st) := by
 subst hj hi hl
 have h9 : 0 ≤ (m : Int) ∧ (m : Int) ≤ (((Ai X).length - 0 : Nat) : Int) := by rw [Ba]; omega
 have h0 : 0 ≤ (h : Int) ∧ (h : Int) ≤ (m : Int) := by omega
 have h1 : 0 ≤ (k : Int) ∧ (k : Int) ≤ (h : Int) := by omega
 have h3 : ¬ ((some (LV.p (.int .i64 (h : Int)))).isNone = true ∨ ¬ 0 + n ≤ (Ai X).length) := by rw [Ba]; simp; omega
 have h4 : ¬ m = k := by omega
 simp only [Ae, LX.ev, Dr, bnd, Option.map_none, Option.map_some, hs]
 rw [if_neg h3, if_pos h9]
 simp only [Int.toNat_natCast]
 rw [if_pos h0]
 simp only
 rw [if_pos h1]
 simp only
 rw [if_neg h4]
theorem Lx {bytes k j m : Nat} (hs : st[o]? = some (.row (Ai X))) (hk : k < X.length) (hj : j + m = X.length) (hm : 0 < m) (hkj : k + m ≤ X.length) (hX : Da size X = true) (h0 : 0 < size) :
  Ae Ar [] st (.append false size bytes (.const (.rs o 0 k)) (.const (.rs o j m))) = some (.rs o 0 (k + m), st.set o (.row (Ai (X.take k ++ X.drop j ++ X.drop (k + m))))) := by
 have e1 : (Ai X).drop j = Ai (X.drop j) := by simp [Ai]
 have e2 : (Ai (X.drop j)).take m = Ai (X.drop j) := by rw [Fk, List.take_of_length_le (by rw [List.length_drop]; omega)]
 have ha : C3 st (.rs o j m) = some (Ai (X.drop j)) := by
  simp only [C3, hs]
  rw [if_pos (by rw [Ba]; omega), e1, e2]
 have hl : (Ai (X.drop j)).length = m := by rw [Ba, List.length_drop]; omega
 have hz : Df size (Ai (X.drop j)) = true := by
  have := C0 hX
  unfold Df at this ⊢
  rw [List.all_eq_true] at this ⊢
  intro e he
  rw [← e1] at he
  exact this e (List.mem_of_mem_drop he)
 have hne : (Ai (X.drop j)).isEmpty = false := by
  cases hq : Ai (X.drop j) with
  | nil => rw [hq] at hl; simp at hl; omega
  | cons a b => rfl
 have h1 : ¬ (k = (Ai X).length ∧ 0 < k ∧ Df size (Ai X) = true ∧ D3 (k + m) bytes = true ∧ k + m ≤ maxLen ∧ 0 < size) := by rw [Ba]; omega
 have h2 : k + m ≤ (Ai X).length ∧ Df size (Ai X) = true ∧ 0 < size := ⟨by rw [Ba]; omega, C0 hX, h0⟩
 have e3 : (Ai X).take k ++ Ai (X.drop j) ++ (Ai X).drop (k + m) = Ai (X.take k ++ X.drop j ++ X.drop (k + m)) := by simp [Ai]
 have hla : Dy false size bytes st (.rs o 0 k) (.rs o j m) = none := by simp only [Dy]; split <;> (try split) <;> rfl
 simp only [Ae, LX.ev, hla, orA_none, Ey, ha, hz, Bool.not_true, Bool.false_eq_true, if_false, hs, hne, hl]
 rw [if_neg h1, if_pos h2, e3]
theorem Kb {bytes k : Nat} (hs : st[o]? = some (.row (Ai X))) :
  Ae Ar [] st (.append false size bytes (.const (.rs o 0 k)) (.const (.p (.sl [])))) = some (.rs o 0 k, st) := by
 have hla : Dy false size bytes st (.rs o 0 k) (.p (.sl [])) = none := by simp only [Dy]; split <;> (try split) <;> rfl
 have ha : C3 st (.p (.sl [])) = some [] := rfl
 simp only [Ae, LX.ev, hla, orA_none, Ey, ha, Df, List.all_nil, Bool.not_true, Bool.false_eq_true, if_false, hs, List.isEmpty_nil, if_true]
theorem Qa {z : List PV} {z' : List LV} {k m : Nat} (hz' : z' = z.map .p) (hs : st[o]? = some (.row (Ai X))) (hk : k + m = X.length) (hm : 0 < m) (hX : Da size X = true) (hz : z.length = size) (h0 : 0 < size) :
  Ae Ar [] st (.clearS z' (.const (.rs o k m))) = some (.tup [], st.set o (.row (Ai (X.take k ++ List.replicate m z)))) := by
 subst hz'
 have h1 : ¬ m = 0 := by omega
 have h2 : k + m ≤ (Ai X).length ∧ (Ai X).all (fun e => e.length == (z.map LV.p).length) = true ∧ 0 < (z.map LV.p).length := by
  refine ⟨by rw [Ba]; omega, ?_, by simp; omega⟩
  have := C0 hX
  simpa [Df, hz] using this
 have e3 : (Ai X).take k ++ List.replicate m (z.map LV.p) ++ (Ai X).drop (k + m) = Ai (X.take k ++ List.replicate m z) := by
  rw [hk, ← Ba X, List.drop_length]
  simp [Ai]
 simp only [Ae, LX.ev]
 rw [if_neg h1, hs]
 simp only
 rw [if_pos h2, e3]
end
theorem Fx (a : List Val) (n : Nat) : Ac (a.take n) = (Ac a).take n := by rw [Ca, Ca, List.map_take]
theorem Ly (a : List Val) (n : Nat) : Ac (a.drop n) = (Ac a).drop n := by rw [Ca, Ca, List.map_drop]
theorem Rt (a : List Val) (i : Nat) (v : Val) : (Ac a).set i (Jm v) = Ac (a.set i v) := by rw [Ca, Ca, List.map_set]
theorem Cj (a : List Val) : Da 5 (Ac a) = true := by
 unfold Da
 rw [List.all_eq_true]
 intro e he
 rw [Ca] at he
 obtain ⟨v, _, rfl⟩ := List.mem_map.1 he
 rw [D6]; rfl
theorem H1 {o n k : Nat} {is : List Val} {st : List LObj} (hs : st[o]? = some (.row (Ai (Ac is)))) (hk : k < n) (he : k < is.length) {j : Int} (hj : j = (k : Int)) :
  Ae Ar [] st (.indexAddr 5 (.const (.rs o 0 n)) (.const (.p (.int .i64 j)))) = some (.ptr o k 0, st) :=
 P6 hs hk (A6 (List.getElem?_eq_getElem he)) (D6 _) hj
theorem Jq {o i : Nat} {k n : Int} {s : List UInt8} {is : List Val} {ns : List (List UInt8)} {xs : List Val} {st : List LObj} (hs : st[o]? = some (.row (Ai (Ac xs)))) (he : i < xs.length) :
  Ae Ar [] st (.store 5 (.const (.ptr o i 0)) (.const (.agg [.p (.int .i64 k), .p (.int .i64 n), .p (.str s), .p (.sl (Ac is)), .p (.sl (Ab ns))]))) = some (.tup [], st.set o (.row (Ai (Ac (xs.set i (.mk k n s is ns)))))) := by
 have e := T4 (Ac xs) i (Jm (.mk k n s is ns))
 rw [Rt] at e
 have hl : ((Jm xs[i]).map LV.p).length = 5 := by rw [List.length_map, D6]
 simp only [Ae, LX.ev, LV.cells?, LV.stAt, hs, Gr (A6 (List.getElem?_eq_getElem he)), List.length_cons, List.length_nil, if_true, Nat.zero_add]
 rw [if_pos (by rw [hl]; decide)]
 simp only [List.take_zero, List.nil_append]
 rw [← e]
 have e2 : List.drop 5 ((Jm xs[i]).map LV.p) = [] := List.drop_eq_nil_of_le (by rw [hl]; decide)
 simp [Jm, e2]
theorem Du {o n : Nat} {xs : List Val} {k m : Int} {s : List UInt8} {is : List Val} {ns : List (List UInt8)} {st : List LObj} (hs : st[o]? = some (.row (Ai (Ac xs)))) (hn : n = xs.length) (h1 : 0 < xs.length) (hb : (xs.length + 1) * 80 ≤ 140737488355328) :
  Ae Ar [] st (.appendR 5 80 (.const (.rs o 0 n)) (.const (.tight [[.int .i64 k, .int .i64 m, .str s, .sl (Ac is), .sl (Ab ns)]]))) = some (.rs st.length 0 (xs ++ [Val.mk k m s is ns]).length, st.set o .dead ++ [.row (Ai (Ac (xs ++ [Val.mk k m s is ns])))]) := by
 have := P7 (size := 5) (bytes := 80) (Y := [Jm (.mk k m s is ns)]) (x := .tight [Jm (.mk k m s is ns)]) (n := n) hs (by rw [Ah]; exact hn) rfl (fun a b c h => by cases h) (Cj xs) rfl (by simp) (by rw [Ah]; exact h1) (by rw [Ah]; simpa using hb) (by rw [Ah]; simp [maxLen]; omega) (by decide)
 have e : Ac (xs ++ [Val.mk k m s is ns]) = Ac xs ++ [Jm (.mk k m s is ns)] := by rw [Eb]; rfl
 rw [e, List.length_append, ← Ah xs]
 exact this
theorem Dv {k m : Int} {s : List UInt8} {is : List Val} {ns : List (List UInt8)} {st : List LObj} :
  Ae Ar [] st (.appendR 5 80 (.const (.tight [])) (.const (.tight [[.int .i64 k, .int .i64 m, .str s, .sl (Ac is), .sl (Ab ns)]]))) = some (.rs st.length 0 [Val.mk k m s is ns].length, st ++ [.row (Ai (Ac [.mk k m s is ns]))]) := rfl
theorem Qb {is : List Val} {st : List LObj} (hne : is ≠ []) (hb : is.length * 80 ≤ 140737488355328) :
  Ae Ar [] st (.appendR 5 80 (.const (.tight [])) (.const (.p (.sl (Ac is))))) = some (.rs st.length 0 is.length, st ++ [.row (Ai (Ac is))]) := by
 have := Lw (size := 5) (bytes := 80) (X := Ac is) (st := st) (Cj is) (by cases is <;> simp_all [Ac]) (by rw [Ah]; exact hb) (by rw [Ah]; simp [maxLen]; omega) (by decide)
 rw [Ah] at this
 exact this
end Go.LS
set_option linter.unusedVariables false
set_option linter.unusedSimpArgs false
namespace Go.LS
theorem Lz {size n : Nat} {E : List (List PV)} {j : Int} {st : List LObj} (hE : Da size E = true) (h : n ≤ E.length) (hj : j = (n : Int)) :
  Ae Ar [] st (.slice size (.const (.p (.sl E))) none (some (.const (.p (.int .i64 j)))) none) = some (.p (.sl (E.take n)), st) := by
 subst hj
 have hall : (E.all fun e => e.length == size) = true := hE
 have e1 : Dr size st (.p (.sl E)) none (some (.p (.int .i64 (n : Int)))) none = some (.p (.sl (E.take n))) := by
  simp only [Dr, LV.asSl, hall, if_true, F3, bnd, Option.isSome_none, Bool.false_eq_true, false_and, if_false, Option.isNone_some]
  rw [if_pos (by omega)]
  simp only [Int.toNat_natCast, List.drop_zero, Option.isNone_none, true_and]
  by_cases hn : n = E.length ∧ 0 < E.length
  ·rw [if_pos hn, hn.1, List.take_length]
  ·rw [if_neg hn]
 simp only [Ae, LX.ev, Option.map_none, Option.map_some, e1]
theorem L0 {size n : Nat} {E : List (List PV)} {j : Int} {st : List LObj} (hE : Da size E = true) (h : n ≤ E.length) (hj : j = (n : Int)) :
  Ae Ar [] st (.slice size (.const (.p (.sl E))) (some (.const (.p (.int .i64 j)))) none none) = some (.p (.sl (E.drop n)), st) := by
 subst hj
 have hall : (E.all fun e => e.length == size) = true := hE
 have e1 : Dr size st (.p (.sl E)) (some (.p (.int .i64 (n : Int)))) none none = some (.p (.sl (E.drop n))) := by
  simp only [Dr, LV.asSl, hall, if_true, F3, bnd, Option.isSome_none, Bool.false_eq_true, false_and, if_false, Option.isNone_none, true_and]
  rw [if_pos (by omega)]
  simp only [Int.toNat_natCast, List.take_length]
  by_cases hn : n < E.length
  ·rw [if_pos hn]
  ·rw [if_neg hn]
 simp only [Ae, LX.ev, Option.map_none, Option.map_some, e1]
theorem Ck {n : Nat} {is : List Val} {j : Int} {st : List LObj} (h : n ≤ is.length) (hj : j = (n : Int)) :
  Ae Ar [] st (.slice 5 (.const (.p (.sl (Ac is)))) none (some (.const (.p (.int .i64 j)))) none) = some (.p (.sl (Ac (is.take n))), st) := by
 rw [Fx]; exact Lz (Cj is) (by rw [Ah]; exact h) hj
theorem Cl {n : Nat} {is : List Val} {j : Int} {st : List LObj} (h : n ≤ is.length) (hj : j = (n : Int)) :
  Ae Ar [] st (.slice 5 (.const (.p (.sl (Ac is)))) (some (.const (.p (.int .i64 j)))) none none) = some (.p (.sl (Ac (is.drop n))), st) := by
 rw [Ly]; exact L0 (Cj is) (by rw [Ah]; exact h) hj
theorem L1 (n : Nat) (ms : List (List UInt8)) : (Ab ms).drop n = Ab (ms.drop n) := by simp [Ab, List.map_drop]
theorem Cm {n : Nat} {ns : List (List UInt8)} {j : Int} {st : List LObj} (h : n ≤ ns.length) (hj : j = (n : Int)) :
  Ae Ar [] st (.slice 1 (.const (.p (.sl (Ab ns)))) none (some (.const (.p (.int .i64 j)))) none) = some (.p (.sl (Ab (ns.take n))), st) := by
 rw [← Hy]; exact Lz (Cy ns) (by rw [Ak]; exact h) hj
theorem B4 {n : Nat} {ns : List (List UInt8)} {j : Int} {st : List LObj} (h : n ≤ ns.length) (hj : j = (n : Int)) :
  Ae Ar [] st (.slice 1 (.const (.p (.sl (Ab ns)))) (some (.const (.p (.int .i64 j)))) none none) = some (.p (.sl (Ab (ns.drop n))), st) := by
 rw [← L1]; exact L0 (Cy ns) (by rw [Ak]; exact h) hj
theorem L2 {p : List UInt8} {r : List (List UInt8)} {st : List LObj} :
  Ae Ar [] st (.slice 1 (.const (.p (.sl (Ab (p :: r))))) (some (.const (.p (.int .i64 1)))) none none) = some (.p (.sl (Ab r)), st) :=
 B4 (ns := p :: r) (n := 1) (by simp) rfl
theorem Vj {i : Nat} : decide ((i : Int) < 0) = false := by rw [decide_eq_false_iff_not]; omega
theorem Bn {p : List UInt8} {r : List (List UInt8)} {st : List LObj} :
  Ae Ar [] st (.indexAddr 1 (.const (.p (.sl (Ab (p :: r))))) (.const (.p (.int .i64 0)))) = some (.pin [.str p] 0, st) := rfl
theorem H2 {tg : Nat} {E X : List Val} {st : List LObj} (hs : st[tg]? = some (.spare 5 (List.length (Ac E)))) (hb : (E.length + X.length) * 80 ≤ 140737488355328) :
  Ae Ar [] st (.append false 5 80 (.const (.sl (Ac E) tg (List.length (Ac E)))) (.const (.p (.sl (Ac X))))) =
   some (.sl (Ac (E ++ X)) tg (List.length (Ac (E ++ X))), st.set tg (.spare 5 (List.length (Ac (E ++ X))))) := by
 have := Fv (size := 5) (bytes := 80) (tg := tg) (E := Ac E) (X := Ac X) (st := st) (x := .p (.sl (Ac X))) hs rfl (Cj X)
  (by rw [Ah, Ah]; exact hb) (by rw [Ah, Ah]; omega) (by decide)
 rw [this, Eb]
theorem Cn {X : List Val} {st : List LObj} (h : decide (X = []) = true) :
  Ae Ar [] st (.append false 5 80 (.const (.tight [])) (.const (.p (.sl (Ac X))))) = some (.tight [], st) := by
 have h := of_decide_eq_true h
 subst h
 rfl
theorem Dw {X : List Val} {st : List LObj} (h : decide (X = []) = false) (hb : X.length * 80 ≤ 140737488355328) :
  Ae Ar [] st (.append false 5 80 (.const (.tight [])) (.const (.p (.sl (Ac X))))) = some (.sl (Ac X) st.length (List.length (Ac X)), st ++ [.spare 5 (List.length (Ac X))]) := by
 have h := of_decide_eq_false h
 have := Fu (size := 5) (bytes := 80) (E := []) (X := Ac X) (st := st) (x := .p (.sl (Ac X))) rfl rfl (Cj X) (fun hh => h (by cases X with | nil => rfl | cons a b => simp [Ac] at hh)) (by rw [Ah]; simp; omega) (by rw [Ah]; simp; omega) (by decide)
 simpa using this
def Bs (es : List (List PV)) : List (List LV) := Ai es ++ [[.p (.int .i64 0), .p (.int .i64 0), .p (.str []), .tight [], .tight []]]
theorem A2 (es : List (List PV)) : (LObj.row (Bs es)).refs = [] := by
 have := Ax es
 simp only [LObj.refs, Bs, List.flatMap_append] at this ⊢
 rw [this]; rfl
theorem A8 (es : List (List PV)) (f : Nat → Nat) : (LObj.row (Bs es)).ren f = .row (Bs es) := by
 have := As es f
 simp only [LObj.ren, Bs, List.map_append, LObj.row.injEq] at this ⊢
 rw [this]; rfl
theorem Ru {o n : Nat} {X : List (List PV)} {st : List LObj} (hs : st[o]? = some (.row (Bs X))) (hn : n = X.length) : E5 st (.rs o 0 n) = (.p (.sl X), st.set o .dead) := by
 subst hn
 have e : ((Bs X).drop 0).take X.length = Ai X := by rw [List.drop_zero, Bs, List.take_append_of_le_length (by rw [Ba]; exact Nat.le_refl _), ← Ba X, List.take_length]
 have hl : 0 + X.length ≤ (Bs X).length := by rw [Bs, List.length_append, Ba]; omega
 simp only [E5, hs, if_pos hl, e, Ew]
theorem Kc {o k : Nat} {X : List (List PV)} {st : List LObj} (hs : st[o]? = some (.row (Ai X))) (hk : k + 1 = X.length) (hX : Da 5 X = true) :
  Ae Ar [] st (.clearS [.p (.int .i64 0), .p (.int .i64 0), .p (.str []), .tight [], .tight []] (.const (.rs o k 1))) = some (.tup [], st.set o (.row (Bs (X.take k)))) := by
 have h2 : k + 1 ≤ (Ai X).length ∧ (Ai X).all (fun e => e.length == 5) = true ∧ 0 < 5 := by
  refine ⟨by rw [Ba]; omega, ?_, by decide⟩
  have := C0 hX
  simpa [Df] using this
 have e3 : (Ai X).take k ++ List.replicate 1 [.p (.int .i64 0), .p (.int .i64 0), .p (.str []), .tight [], .tight []] ++ (Ai X).drop (k + 1) = Bs (X.take k) := by
  rw [hk, ← Ba X, List.drop_length, List.append_nil, Fk]
  rfl
 simp only [Ae, LX.ev]
 rw [if_neg (by decide), hs]
 simp only [List.length_cons, List.length_nil]
 rw [if_pos h2, e3]
theorem Kd {o k : Nat} {ns : List (List UInt8)} {st : List LObj} (hs : st[o]? = some (.row (Ai (Ab ns)))) (hk : k + 1 = ns.length) :
  Ae Ar [] st (.clearS [.p (.str [])] (.const (.rs o k 1))) = some (.tup [], st.set o (.row (Ai (Ab (ns.take k ++ [[]]))))) := by
 have h := Qa (size := 1) (z := [PV.str []]) (z' := [.p (.str [])]) (k := k) (m := 1) rfl hs (by rw [Ak]; exact hk) (by decide) (Cy _) rfl (by decide)
 rw [h, Dk, ← Hy]
 rfl
theorem Rv {o n o' n' : Nat} {X Y Y' : List (List PV)} {st : List LObj} {a b : List LV} (ha : a.all Gs = true) (hb : b.all Gs = true) (hs : st[o]? = some (.row (Bs X))) (hn : n = X.length)
  (hs' : (st.set o .dead)[o']? = some (.row (Ai Y))) (hn' : n' ≤ Y.length) (hY : Y.take n' = Y') :
  frz true st [.agg (a ++ .rs o 0 n :: .rs o' 0 n' :: b)] = ([.agg (a.map LV.weak1 ++ .p (.sl X) :: .p (.sl Y') :: b.map LV.weak1)], (st.set o .dead).set o' .dead) := by
 have e : Co st (a ++ .rs o 0 n :: .rs o' 0 n' :: b) = (a.map LV.weak1 ++ .p (.sl X) :: .p (.sl Y') :: b.map LV.weak1, (st.set o .dead).set o' .dead) := by
  rw [G8, B3 st a ha]
  simp only [Co, Ru hs hn, Rs hs' hn' hY, B3 _ b hb]
 simp only [frz, H6, Kf, e]
def C6 : Val → Nat → Val → Val
 | .mk k n s is ns, i, x => .mk k n s (is.set i x) ns
def growV : Val → List UInt8 → Val → Val
 | .mk k n s is ns, p, x => .mk k n s (is ++ [x]) (if k == 7 then ns ++ [p] else ns)
def Ex : Val := .mk 1 0 [] [] []
def At : Val → Nat → Val
 | .mk k n s is ns, i => if k == 6 then .mk k n s (is.set i Ex) ns else .mk k n s (is.eraseIdx i) (ns.eraseIdx i)
def atV (f : Val → Nat → Val) : List (List UInt8) → Val → Val
 | [], v => v
 | p :: r, v => if Aa v p < 0 then v else
  match r with
  | [] => f v (Aa v p).toNat
  | _ :: _ => match (iV v)[(Aa v p).toNat]? with
   | some y => C6 v (Aa v p).toNat (atV f r y)
   | none => v
end Go.LS
set_option linter.unusedVariables false
set_option linter.unusedSimpArgs false
namespace Go.LS
mutual
def okW (B : Nat) : Val → Prop
 | .mk k n s is ns => (-9223372036854775808 ≤ k ∧ k ≤ 9223372036854775807) ∧ (-9223372036854775808 ≤ n ∧ n ≤ 9223372036854775807) ∧ s.length ≤ 140737488351232 ∧ is.length ≤ B ∧ ns.length ≤ B ∧ (∀ x ∈ ns, x.length ≤ 140737488351232) ∧ T6 B is
def T6 (B : Nat) : List Val → Prop
 | [] => True
 | v :: r => okW B v ∧ T6 B r
end
theorem L3 {B : Nat} : ∀ {l : List Val}, T6 B l ↔ ∀ v ∈ l, okW B v
 | [] => by simp [T6]
 | v :: r => by rw [T6, L3 (l := r)]; simp
theorem Ha {B : Nat} {k n : Int} {s : List UInt8} {is : List Val} {ns : List (List UInt8)} (h : okW B (.mk k n s is ns)) : (-9223372036854775808 ≤ k ∧ k ≤ 9223372036854775807) ∧ (-9223372036854775808 ≤ n ∧ n ≤ 9223372036854775807) ∧ s.length ≤ 140737488351232 ∧ is.length ≤ B ∧ ns.length ≤ B ∧ (∀ x ∈ ns, x.length ≤ 140737488351232) ∧ ∀ v ∈ is, okW B v := by
 rw [okW, L3] at h; exact h
theorem Jr {B : Nat} {k n : Int} {s : List UInt8} {is : List Val} {ns : List (List UInt8)} (h : (-9223372036854775808 ≤ k ∧ k ≤ 9223372036854775807) ∧ (-9223372036854775808 ≤ n ∧ n ≤ 9223372036854775807) ∧ s.length ≤ 140737488351232 ∧ is.length ≤ B ∧ ns.length ≤ B ∧ (∀ x ∈ ns, x.length ≤ 140737488351232) ∧ ∀ v ∈ is, okW B v) : okW B (.mk k n s is ns) := by
 rw [okW, L3]; exact h
theorem I2 {B : Nat} (hB : B ≤ 1000000000000) : ∀ v, okW B v → okV v := by
 refine Val.ind fun k n s is ns ih h => ?_
 obtain ⟨h1, h2, h3, h4, h5, h6, h7⟩ := Ha h
 rw [okV, Nu]
 exact ⟨h1, h2, h3, by omega, by omega, h6, fun v hv => ih v hv (h7 v hv)⟩
theorem O1 {B C : Nat} (hB : B ≤ C) : ∀ v, okW B v → okW C v := by
 refine Val.ind fun k n s is ns ih h => ?_
 obtain ⟨h1, h2, h3, h4, h5, h6, h7⟩ := Ha h
 exact Jr ⟨h1, h2, h3, by omega, by omega, h6, fun v hv => ih v hv (h7 v hv)⟩
theorem Js {B : Nat} {v y : Val} {i : Nat} (h : okW B v) (hy : (iV v)[i]? = some y) : okW B y := by
 obtain ⟨k, n, s, is, ns⟩ := v
 exact (Ha h).2.2.2.2.2.2 y (List.mem_of_getElem? hy)
theorem O2 {B : Nat} {v x : Val} {i : Nat} (h : okW B v) (hx : okW B x) : okW B (C6 v i x) := by
 obtain ⟨k, n, s, is, ns⟩ := v
 obtain ⟨h1, h2, h3, h4, h5, h6, h7⟩ := Ha h
 refine Jr ⟨h1, h2, h3, by rw [List.length_set]; exact h4, h5, h6, fun y hy => ?_⟩
 rcases List.mem_or_eq_of_mem_set hy with hy | rfl
 ·exact h7 y hy
 ·exact hx
theorem T7 {B : Nat} : okW B Ex := Jr ⟨by omega, by omega, by simp, by simp, by simp, by simp, by simp⟩
theorem Gt {B : Nat} {v : Val} {i : Nat} (h : okW B v) : okW B (At v i) := by
 obtain ⟨k, n, s, is, ns⟩ := v
 obtain ⟨h1, h2, h3, h4, h5, h6, h7⟩ := Ha h
 rw [At]
 split
 ·exact O2 (v := .mk k n s is ns) h T7
 ·refine Jr ⟨h1, h2, h3, ?_, ?_, fun y hy => h6 y (List.mem_of_mem_eraseIdx hy), fun y hy => h7 y (List.mem_of_mem_eraseIdx hy)⟩
  ·have := List.length_eraseIdx_le is i; omega
  ·have := List.length_eraseIdx_le ns i; omega
theorem Ny {B : Nat} {f : Val → Nat → Val} (hf : ∀ v i, okW B v → okW B (f v i)) : ∀ (ps : List (List UInt8)) (v : Val), okW B v → okW B (atV f ps v)
 | [], v, h => h
 | p :: r, v, h => by
  cases r with
  | nil =>
   rw [atV]
   split
   ·exact h
   ·exact hf _ _ h
  | cons q t =>
   rw [atV]
   split
   ·exact h
   ·split
    ·rename_i y hy
     exact O2 h (Ny hf (q :: t) y (Js h hy))
    ·exact h
theorem Qx (s : List UInt8) : ∀ (l : List (List UInt8)) (i : Int), F2 s l i = if s ∈ l then i + (l.idxOf s : Int) else -1
 | [], i => by simp [F2]
 | x :: r, i => by
  rw [F2, Qx s r]
  by_cases h : s = x
  ·subst h; simp
  ·have hx : (x == s) = false := by simp; exact fun e => h e.symm
   have : (s == x) = false := by simp [h]
   rw [this]
   simp only [Bool.false_eq_true, if_false, List.mem_cons, h, false_or, List.idxOf_cons, hx, cond_false]
   split
   ·push_cast; omega
   ·rfl
theorem Gu {n : Int} {s p : List UInt8} {is : List Val} {ns : List (List UInt8)} : Aa (.mk 7 n s is ns) p = if p ∈ ns then ((ns.idxOf p : Nat) : Int) else -1 := by
 simp only [Aa]
 rw [Qx]
 simp
theorem T8 {n : Int} {s p : List UInt8} {is : List Val} {ns : List (List UInt8)} : Aa (.mk 6 n s is ns) p = if Option.getD (C5 p) (-1) < (is.length : Int) then Option.getD (C5 p) (-1) else -1 := rfl
theorem Jt {k n : Int} {s p : List UInt8} {is : List Val} {ns : List (List UInt8)} (h6 : k ≠ 6) (h7 : k ≠ 7) : Aa (.mk k n s is ns) p = -1 := by
 have a : (k == 7) = false := by simpa using h7
 have b : (k == 6) = false := by simpa using h6
 simp only [Aa, a, b]
 simp
theorem I3 {n : Int} {s : List UInt8} {is : List Val} {ns : List (List UInt8)} (h : Bc (.mk 7 n s is ns) = true) : n = 0 ∧ s = [] ∧ ns.length = is.length ∧ Bf ns = false ∧ ns.all Aw = true ∧ ∀ v ∈ is, Bc v = true := by
 rw [Bc, Eu] at h
 simp only [Dt, Bool.and_eq_true] at h
 simp at h
 refine ⟨h.2.1.1.1, h.2.1.1.2, h.2.1.2, h.2.2, ?_, h.1.1⟩
 simpa using h.1.2
theorem Vk {is : List Val} {ns : List (List UInt8)} (h1 : ns.length = is.length) (h2 : Bf ns = false) (h3 : ns.all Aw = true) (h4 : ∀ v ∈ is, Bc v = true) : Bc (.mk 7 0 [] is ns) = true := by
 rw [Bc, Eu, h3]
 simp [Dt, h1, h2]
 exact h4
theorem T9 {n : Int} {s : List UInt8} {is : List Val} {ns : List (List UInt8)} (h : Bc (.mk 6 n s is ns) = true) : n = 0 ∧ s = [] ∧ ns = [] ∧ ∀ v ∈ is, Bc v = true := by
 rw [Bc, Eu] at h
 simp only [Dt, Bool.and_eq_true] at h
 simp at h
 exact ⟨h.2.1.1, h.2.1.2, h.2.2, h.1.1⟩
theorem O3 : ∀ (s : List UInt8) (n m : Int), 0 ≤ n → Cd s n = some m → 0 ≤ m
 | [], n, m, h, e => by simp [Cd] at e; omega
 | c :: r, n, m, h, e => by
  rw [Cd] at e
  split at e
  ·cases e
  ·rename_i hc
   simp at hc
   exact O3 r _ m (by omega) e
theorem Vl {s : List UInt8} {m : Int} (h : C5 s = some m) : 0 ≤ m := by
 unfold C5 at h
 split at h
 ·cases h
 ·exact O3 s 0 m (by omega) h
theorem H3 (p : List UInt8) : (C5 p = none ∧ Option.getD (C5 p) (-1) = -1) ∨ ∃ j : Nat, C5 p = some (j : Int) := by
 cases h : C5 p with
 | none => exact .inl ⟨rfl, rfl⟩
 | some m => exact .inr ⟨m.toNat, by rw [Int.toNat_of_nonneg (Vl h)]⟩
theorem Ce {v : Val} (hm : Bc v = true) (p : List UInt8) : Aa v p = -1 ∨ ∃ i y, Aa v p = ((i : Nat) : Int) ∧ (iV v)[i]? = some y ∧ y ∈ iV v ∧ Bc y = true := by
 obtain ⟨k, n, s, is, ns⟩ := v
 by_cases h7 : k = 7
 ·subst h7
  obtain ⟨_, _, hl, _, _, hmi⟩ := I3 hm
  rw [Gu]
  split
  ·rename_i hp
   have : ns.idxOf p < is.length := by rw [← hl]; exact List.idxOf_lt_length_of_mem hp
   exact .inr ⟨_, is[ns.idxOf p], rfl, List.getElem?_eq_getElem this, List.getElem_mem this, hmi _ (List.getElem_mem this)⟩
  ·exact .inl rfl
 ·by_cases h6 : k = 6
  ·subst h6
   obtain ⟨_, _, _, hmi⟩ := T9 hm
   rw [T8]
   rcases H3 p with ⟨_, h⟩ | ⟨j, h⟩
   ·rw [h]; left; split <;> rfl
   ·rw [h]
    simp only [Option.getD_some]
    by_cases hj : (j : Int) < is.length
    ·rw [if_pos hj]
     have : j < is.length := by omega
     exact .inr ⟨j, is[j], rfl, List.getElem?_eq_getElem this, List.getElem_mem this, hmi _ (List.getElem_mem this)⟩
    ·rw [if_neg hj]; exact .inl rfl
  ·exact .inl (Jt h6 h7)
theorem H4 {v x : Val} {i : Nat} (p : List UInt8) : Aa (C6 v i x) p = Aa v p := by
 obtain ⟨k, n, s, is, ns⟩ := v
 simp only [C6, Aa, List.length_set]
theorem L4 {v x : Val} {i : Nat} : iV (C6 v i x) = (iV v).set i x := by obtain ⟨k, n, s, is, ns⟩ := v; rfl
theorem Rw {v x : Val} {i : Nat} : kV (C6 v i x) = kV v := by obtain ⟨k, n, s, is, ns⟩ := v; rfl
theorem Rx {v x y : Val} {i : Nat} : C6 (C6 v i x) i y = C6 v i y := by obtain ⟨k, n, s, is, ns⟩ := v; simp [C6]
theorem O4 {v x : Val} {i : Nat} (hv : Bc v = true) (hx : Bc x = true) : Bc (C6 v i x) = true := by
 obtain ⟨k, n, s, is, ns⟩ := v
 rw [Bc, Eu] at hv
 rw [C6, Bc, Eu, List.length_set]
 simp only [Bool.and_eq_true] at hv ⊢
 refine ⟨⟨?_, hv.1.2⟩, hv.2⟩
 rw [List.all_eq_true] at hv ⊢
 intro y hy
 rcases List.mem_or_eq_of_mem_set hy with hy | rfl
 ·exact hv.1.1 y hy
 ·exact hx
theorem I4 : ∀ (l : List (List UInt8)) (i : Nat), Bf l = false → Bf (l.eraseIdx i) = false
 | [], _, _ => rfl
 | x :: r, 0, h => by simp only [Bf, Bool.or_eq_false_iff] at h; exact h.2
 | x :: r, i + 1, h => by
  simp only [Bf, Bool.or_eq_false_iff, List.contains_eq_mem, decide_eq_false_iff_not, List.eraseIdx_cons_succ] at h ⊢
  exact ⟨fun hx => h.1 (List.mem_of_mem_eraseIdx hx), I4 r i h.2⟩
theorem Ry : Bc Ex = true := rfl
end Go.LS
namespace Go.LS
end Go.LS
set_option linter.unusedVariables false
set_option linter.unusedSimpArgs false
namespace Go.LS
theorem Fl {a b : UInt8} (h : a.toNat = b.toNat) : a = b := UInt8.toNat_inj.1 h
theorem Dq {a : UInt8} {r : List UInt8} {n m : Int} (h : Cd (a :: r) n = some m) : 48 ≤ a.toNat ∧ a.toNat ≤ 57 ∧ Cd r (10 * n + ((a.toNat : Int) - 48)) = some m := by
 rw [Cd] at h
 split at h
 ·cases h
 ·rename_i q
  simp at q
  exact ⟨q.1, q.2, h⟩
theorem D7 {n m : Int} (h : Cd [] n = some m) : n = m := by simpa [Cd] using h
theorem Ua {s t : List UInt8} {m : Int} (hs : C5 s = some m) (ht : C5 t = some m) : s = t := by
 unfold C5 at hs ht
 split at hs
 ·cases hs
 rename_i h1
 split at ht
 ·cases ht
 rename_i h2
 simp only [Bool.or_eq_true, decide_eq_true_eq, Bool.and_eq_true, beq_iff_eq, not_or, not_and] at h1 h2
 match s, t, h1, h2, hs, ht with
 | [], _, h1, _, _, _ => simp at h1
 | _ :: _, [], _, h2, _, _ => simp at h2
 | [a], [b], h1, h2, hs, ht =>
  obtain ⟨a1, a2, hs⟩ := Dq hs
  obtain ⟨b1, b2, ht⟩ := Dq ht
  have := D7 hs; have := D7 ht
  rw [Fl (show a.toNat = b.toNat by omega)]
 | [a], b :: c :: r, h1, h2, hs, ht =>
  obtain ⟨a1, a2, hs⟩ := Dq hs
  obtain ⟨b1, b2, ht⟩ := Dq ht
  obtain ⟨c1, c2, ht⟩ := Dq ht
  have := D7 hs
  simp at h2
  match r, h2, ht with
  | [], h2, ht => have := D7 ht; omega
  | [d], h2, ht =>
   obtain ⟨d1, d2, ht⟩ := Dq ht
   have := D7 ht; omega
  | _ :: _ :: _, h2, _ => simp at h2
 | b :: c :: r, [a], h2, h1, ht, hs =>
  obtain ⟨a1, a2, hs⟩ := Dq hs
  obtain ⟨b1, b2, ht⟩ := Dq ht
  obtain ⟨c1, c2, ht⟩ := Dq ht
  have := D7 hs
  simp at h2
  match r, h2, ht with
  | [], h2, ht => have := D7 ht; omega
  | [d], h2, ht =>
   obtain ⟨d1, d2, ht⟩ := Dq ht
   have := D7 ht; omega
  | _ :: _ :: _, h2, _ => simp at h2
 | a :: b :: r, c :: d :: q, h1, h2, hs, ht =>
  obtain ⟨a1, a2, hs⟩ := Dq hs
  obtain ⟨b1, b2, hs⟩ := Dq hs
  obtain ⟨c1, c2, ht⟩ := Dq ht
  obtain ⟨d1, d2, ht⟩ := Dq ht
  simp at h1 h2
  match r, q, h1, h2, hs, ht with
  | [], [], h1, h2, hs, ht =>
   have := D7 hs; have := D7 ht
   rw [Fl (show a.toNat = c.toNat by omega), Fl (show b.toNat = d.toNat by omega)]
  | [], [e], h1, h2, hs, ht =>
   obtain ⟨e1, e2, ht⟩ := Dq ht
   have := D7 hs; have := D7 ht; omega
  | [e], [], h1, h2, hs, ht =>
   obtain ⟨e1, e2, hs⟩ := Dq hs
   have := D7 hs; have := D7 ht; omega
  | [e], [f], h1, h2, hs, ht =>
   obtain ⟨e1, e2, hs⟩ := Dq hs
   obtain ⟨f1, f2, ht⟩ := Dq ht
   have := D7 hs; have := D7 ht
   rw [Fl (show a.toNat = c.toNat by omega), Fl (show b.toNat = d.toNat by omega), Fl (show e.toNat = f.toNat by omega)]
  | _ :: _ :: _, _, h1, _, _, _ => simp at h1
  | _, _ :: _ :: _, _, h2, _, _ => simp at h2
theorem Rz {v : Val} {a b : List UInt8} {i : Nat} (ha : Aa v a = (i : Int)) (hb : Aa v b = (i : Int)) : a = b := by
 obtain ⟨k, n, s, is, ns⟩ := v
 by_cases h7 : k = 7
 ·subst h7
  rw [Gu] at ha hb
  split at ha
  ·rename_i h1
   split at hb
   ·rename_i h2
    have e1 := List.getElem_idxOf (List.idxOf_lt_length_of_mem h1)
    have e2 := List.getElem_idxOf (List.idxOf_lt_length_of_mem h2)
    have e : ns.idxOf a = ns.idxOf b := by omega
    rw [← e1, ← e2]
    simp only [e]
   ·omega
  ·omega
 ·by_cases h6 : k = 6
  ·subst h6
   rw [T8] at ha hb
   rcases H3 a with ⟨_, h⟩ | ⟨j, h⟩
   ·rw [h] at ha; split at ha <;> omega
   ·rcases H3 b with ⟨_, g⟩ | ⟨l, g⟩
    ·rw [g] at hb; split at hb <;> omega
    ·rw [h, Option.getD_some] at ha
     rw [g, Option.getD_some] at hb
     split at ha
     ·split at hb
      ·exact Ua h (by rw [g, show l = j by omega])
      ·omega
     ·omega
  ·rw [Jt h6 h7] at ha; omega
theorem items5 (v : Val) : Qt v = iV v := by obtain ⟨_, _, _, _, _⟩ := v; rfl
theorem Hb {p : List UInt8} {r : List (List UInt8)} {v : Val} : Ox (p :: r) v = if Aa v p < 0 then none else (iV v)[(Aa v p).toNat]?.bind (Ox r) := by
 rw [Ox, items5]
 split
 ·rfl
 ·cases (iV v)[(Aa v p).toNat]? <;> rfl
theorem R0 {v x : Val} {a b : List UInt8} {t : List (List UInt8)} {i : Nat} (ha : Aa v a = (i : Int)) (hab : a ≠ b) : Ox (b :: t) (C6 v i x) = Ox (b :: t) v := by
 rw [Hb, Hb, H4, L4]
 split
 ·rfl
 ·rename_i hb
  have : i ≠ (Aa v b).toNat := fun e => hab (Rz ha (by rw [e]; omega))
  rw [List.getElem?_set_ne this]
structure Chg (f : Val → Nat → Val) : Prop where
 may : ∀ v i y, Bc v = true → (∃ p, Aa v p = ((i : Nat) : Int)) → (iV v)[i]? = some y → Bc (f v i) = true
 other : ∀ v i y a b t, Bc v = true → Aa v a = ((i : Nat) : Int) → (iV v)[i]? = some y → a ≠ b → Ox (b :: t) (f v i) = Ox (b :: t) v
 kind : ∀ v i, kV (f v i) = kV v
 twice : ∀ v i y a, Bc v = true → Aa v a = ((i : Nat) : Int) → (iV v)[i]? = some y → atV f [a] (f v i) = f v i
theorem Hc {f : Val → Nat → Val} {a : List UInt8} {v : Val} : atV f [a] v = if Aa v a < 0 then v else f v (Aa v a).toNat := by rw [atV]
theorem Hd {f : Val → Nat → Val} {a b : List UInt8} {t : List (List UInt8)} {v y : Val} {i : Nat} (h : Aa v a = (i : Int)) (hi : (iV v)[i]? = some y) : atV f (a :: b :: t) v = C6 v i (atV f (b :: t) y) := by
 rw [atV, h, if_neg (by omega), Int.toNat_natCast, hi]
theorem C2 {f : Val → Nat → Val} {a : List UInt8} {t : List (List UInt8)} {v : Val} (h : Aa v a = -1) : atV f (a :: t) v = v := by
 cases t <;> rw [atV, h, if_pos (by omega)]
theorem Ub {f : Val → Nat → Val} (hf : Chg f) : ∀ (p : List (List UInt8)) (v : Val), Bc v = true → Bc (atV f p v) = true
 | [], v, hv => hv
 | [a], v, hv => by
  rcases Ce hv a with h | ⟨i, y, h, hi, _, hy⟩
  ·rw [C2 h]; exact hv
  ·rw [Hc, h, if_neg (by omega), Int.toNat_natCast]; exact hf.may v i y hv ⟨a, h⟩ hi
 | a :: b :: t, v, hv => by
  rcases Ce hv a with h | ⟨i, y, h, hi, _, hy⟩
  ·rw [C2 h]; exact hv
  ·rw [Hd h hi]; exact O4 hv (Ub hf (b :: t) y hy)
theorem Vm {f : Val → Nat → Val} (hf : Chg f) {p : List (List UInt8)} {v : Val} (hv : Bc v = true) : kV (atV f p v) = kV v := by
 match p with
 | [] => rfl
 | [a] =>
  rcases Ce hv a with h | ⟨i, y, h, hi, _, hy⟩
  ·rw [C2 h]
  ·rw [Hc, h, if_neg (by omega), Int.toNat_natCast]; exact hf.kind v i
 | a :: b :: t =>
  rcases Ce hv a with h | ⟨i, y, h, hi, _, hy⟩
  ·rw [C2 h]
  ·rw [Hd h hi]; exact Rw
theorem O5 {f : Val → Nat → Val} (hf : Chg f) : ∀ (p : List (List UInt8)) (v : Val), Bc v = true → atV f p (atV f p v) = atV f p v
 | [], v, hv => rfl
 | [a], v, hv => by
  rcases Ce hv a with h | ⟨i, y, h, hi, _, hy⟩
  ·rw [C2 h, C2 h]
  ·have e : atV f [a] v = f v i := by rw [Hc, h, if_neg (by omega), Int.toNat_natCast]
   rw [e]; exact hf.twice v i y a hv h hi
 | a :: b :: t, v, hv => by
  rcases Ce hv a with h | ⟨i, y, h, hi, _, hy⟩
  ·rw [C2 h, C2 h]
  ·rw [Hd h hi]
   have hlt := (List.getElem?_eq_some_iff.1 hi).1
   have hit : (iV (C6 v i (atV f (b :: t) y)))[i]? = some (atV f (b :: t) y) := by rw [L4]; simp [hlt]
   rw [Hd (by rw [H4]; exact h) hit, O5 hf (b :: t) y hy, Rx]
theorem Ke {b a : List UInt8} : ∀ (l : List (List UInt8)) (i : Nat), l[i]? = some a → a ≠ b → (b ∈ l.eraseIdx i ↔ b ∈ l) ∧ ∀ {α : Type} (is : List α), is.length = l.length → b ∈ l → (is.eraseIdx i)[(l.eraseIdx i).idxOf b]? = is[l.idxOf b]?
 | [], i, h, _ => by simp at h
 | x :: r, 0, h, hab => by
  simp at h; subst h
  refine ⟨by simp; exact fun e => absurd e.symm hab, fun is hl hb => ?_⟩
  cases is with
  | nil => simp at hl
  | cons y q =>
   have hx : (x == b) = false := by simpa using hab
   simp only [List.eraseIdx_zero, List.tail_cons, List.idxOf_cons, hx, cond_false, List.getElem?_cons_succ]
 | x :: r, i + 1, h, hab => by
  obtain ⟨a1, a2⟩ := Ke r i (by simpa using h) hab
  refine ⟨by simp only [List.eraseIdx_cons_succ, List.mem_cons, a1], fun is hl hb => ?_⟩
  cases is with
  | nil => simp at hl
  | cons y q =>
   simp only [List.eraseIdx_cons_succ, List.idxOf_cons]
   by_cases hx : (x == b) = true
   ·simp [hx]
   ·have hx' : (x == b) = false := by simpa using hx
    have hbr : b ∈ r := by
     rcases List.mem_cons.1 hb with e | e
     ·subst e; simp at hx'
     ·exact e
    simp only [hx', cond_false, List.getElem?_cons_succ]
    exact a2 q (by simpa using hl) hbr
theorem R1 {l : List (List UInt8)} {a : List UInt8} (h : a ∈ l) : l[l.idxOf a]? = some a := by
 rw [List.getElem?_eq_getElem (List.idxOf_lt_length_of_mem h)]
 simp
theorem O6 : ∀ (l : List (List UInt8)), Bf l = false → ∀ a, a ∉ l.eraseIdx (l.idxOf a)
 | [], _, a => by simp
 | x :: r, h, a => by
  simp only [Bf, Bool.or_eq_false_iff, List.contains_eq_mem, decide_eq_false_iff_not] at h
  rw [List.idxOf_cons]
  by_cases hx : (x == a) = true
  ·have := eq_of_beq hx; subst this
   simp only [beq_self_eq_true, cond_true, List.eraseIdx_zero, List.tail_cons]; exact h.1
  ·have hx' : (x == a) = false := by simpa using hx
   simp only [hx', cond_false, List.eraseIdx_cons_succ, List.mem_cons, not_or]
   exact ⟨fun e => by subst e; simp at hx', O6 r h.2 a⟩
theorem Gv : Chg At where
 may := by
  intro v i y hv hp hi
  obtain ⟨k, n, s, is, ns⟩ := v
  rw [At]
  split
  ·exact O4 (v := .mk k n s is ns) hv Ry
  ·rename_i h6
   obtain ⟨p, hp⟩ := hp
   by_cases h7 : k = 7
   ·subst h7
    obtain ⟨rfl, rfl, hl, ht, hn, hmi⟩ := I3 hv
    refine Vk ?_ (I4 ns i ht) ?_ fun z hz => hmi z (List.mem_of_mem_eraseIdx hz)
    ·rw [List.length_eraseIdx, List.length_eraseIdx, hl]
    ·rw [List.all_eq_true] at hn ⊢; exact fun z hz => hn z (List.mem_of_mem_eraseIdx hz)
   ·rw [Jt (by simpa using h6) h7] at hp; omega
 other := by
  intro v i y a b t hv ha hi hab
  obtain ⟨k, n, s, is, ns⟩ := v
  rw [At]
  split
  ·exact R0 (v := .mk k n s is ns) ha hab
  ·rename_i h6
   by_cases h7 : k = 7
   ·subst h7
    obtain ⟨rfl, rfl, hl, ht, hn, hmi⟩ := I3 hv
    rw [Gu] at ha
    split at ha
    ·rename_i ham
     have ei : i = ns.idxOf a := by omega
     obtain ⟨a1, a2⟩ := Ke (b := b) (a := a) ns i (by rw [ei]; exact R1 ham) hab
     rw [Hb, Hb, Gu, Gu]
     by_cases hb : b ∈ ns
     ·rw [if_pos (a1.2 hb), if_pos hb, if_neg (by omega), if_neg (by omega), Int.toNat_natCast, Int.toNat_natCast]
      simp only [iV]
      rw [a2 is hl.symm hb]
     ·rw [if_neg (fun q => hb (a1.1 q)), if_neg hb, if_pos (by omega), if_pos (by omega)]
    ·omega
   ·rw [Jt (by simpa using h6) h7] at ha; omega
 kind := by intro v i; obtain ⟨k, n, s, is, ns⟩ := v; rw [At]; split <;> rfl
 twice := by
  intro v i y a hv ha hi
  obtain ⟨k, n, s, is, ns⟩ := v
  have e : At (.mk k n s is ns) i = if k == 6 then C6 (.mk k n s is ns) i Ex else .mk k n s (is.eraseIdx i) (ns.eraseIdx i) := rfl
  rw [e]
  split
  ·rename_i h6
   rw [Hc, H4, ha, if_neg (by omega), Int.toNat_natCast]
   simp only [C6, At, h6, if_true, List.set_set]
  ·rename_i h6
   by_cases h7 : k = 7
   ·subst h7
    obtain ⟨rfl, rfl, hl, ht, hn, hmi⟩ := I3 hv
    rw [Gu] at ha
    split at ha
    ·rename_i ham
     have ei : i = ns.idxOf a := by omega
     have hnot : a ∉ ns.eraseIdx i := by
      rw [ei]
      exact O6 ns ht a
     rw [C2]
     rw [Gu, if_neg hnot]
    ·omega
   ·rw [Jt (by simpa using h6) h7] at ha; omega
end Go.LS
namespace Go.LS
def Ag (e : Int) (ps : List (List UInt8)) (v : Val) : Val × Int := if (e == 0) = true then (atV At ps v, 0) else (Qu, e)
end Go.LS

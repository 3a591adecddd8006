import Derived.Test.YtpkmddkodchanaaLsSet
set_option linter.unusedVariables false
set_option linter.unusedSimpArgs false
set_option maxRecDepth 100000
namespace Go.Proofs.Ytpkmddkodchanaa
open Go Go.LS
theorem Qy {k n : Nat} (h : k < n) (hn : n ≤ 140737488355328) : IntKind.wrap .i64 ((k : Int) + 1) = ((k + 1 : Nat) : Int) := by rw [Bv (by omega) (by omega)]; push_cast; rfl
theorem kne {k n : Nat} (h : k < n) (hn : n ≤ 140737488355328) : ((k : Int) == IntKind.wrap .i64 ((k : Int) + 1)) = false := by rw [Qy h hn, beq_eq_false_iff_ne]; push_cast; omega
theorem L5 {α : Type} (l : List α) (k : Nat) (h : k < l.length) : List.take (k + (l.length - (k + 1))) (List.take k l ++ List.drop (k + 1) l ++ List.drop (k + (l.length - (k + 1))) l) = l.eraseIdx k := by
 rw [List.eraseIdx_eq_take_drop_succ, List.take_append_of_le_length (by simp; omega), List.take_of_length_le (by simp; omega)]
theorem L6 {α : Type} (l : List α) (k : Nat) (h : k + 1 = l.length) : l.eraseIdx k = List.take k l := by
 rw [List.eraseIdx_eq_take_drop_succ, List.drop_eq_nil_of_le (by omega), List.append_nil]
theorem delN {ns : List (List UInt8)} {k : Nat} (hk : k < ns.length) (hl : ns.length * 16 ≤ 140737488355328) : Runs lp 55 [.rs 0 0 (List.length ns), .p (.int .i64 (k : Int)), .p (.int .i64 (IntKind.wrap .i64 ((k : Int) + 1)))] [.row (Ai (Ab ns))] (.rs 0 0 (List.length ns - 1), [.row (Ai (Ab (ns.eraseIdx k ++ [[]])))]) := by
 have h1 := Qy hk (by omega)
 have h2 := kne hk (by omega)
 refine ifE (delN0 (h2) (h1) (by omega) (by omega) (by omega) (by omega) (by omega) (by omega) (fun hE => by have := of_decide_eq_true hE; omega) (fun hE => by have := of_decide_eq_true hE; omega) (fun hE => by have := of_decide_eq_true hE; omega) (fun hE => by have := of_decide_eq_false hE; first | omega | (simp only [List.length_append, List.length_take, List.length_drop]; omega)) (fun hE => by have := of_decide_eq_false hE; first | omega | (simp only [List.length_append, List.length_take, List.length_drop]; omega)) (fun hE => by have := of_decide_eq_false hE; first | omega | (simp only [List.length_append, List.length_take, List.length_drop]; omega)) (fun hE => by have := of_decide_eq_false hE; first | omega | (simp only [List.length_append, List.length_take, List.length_drop]; omega)) (fun hE => by have := of_decide_eq_false hE; first | omega | (simp only [List.length_append, List.length_take, List.length_drop]; omega)) (fun hE => by have := of_decide_eq_false hE; first | omega | (simp only [List.length_append, List.length_take, List.length_drop]; omega)) (fun hE => by have := of_decide_eq_false hE; first | omega | (simp only [List.length_append, List.length_take, List.length_drop]; omega)) (fun hE => by have := of_decide_eq_false hE; first | omega | (simp only [List.length_append, List.length_take, List.length_drop]; omega)) (fun hE => by have := of_decide_eq_false hE; first | omega | (simp only [List.length_append, List.length_take, List.length_drop]; omega)) (fun hE => by have := of_decide_eq_false hE; first | omega | (simp only [List.length_append, List.length_take, List.length_drop]; omega)) (fun hE => by have := of_decide_eq_false hE; first | omega | (simp only [List.length_append, List.length_take, List.length_drop]; omega)) (fun hE => by have := of_decide_eq_false hE; first | omega | (simp only [List.length_append, List.length_take, List.length_drop]; omega))) ?_
 by_cases hq : k + 1 = ns.length
 ·rw [decide_eq_true hq, if_pos rfl, L6 ns k hq, show k = ns.length - 1 by omega]
 ·rw [decide_eq_false hq, L5 ns k hk, show k + (ns.length - (k + 1)) = ns.length - 1 by omega]; rfl
theorem delV {is : List Val} {k : Nat} (hk : k < is.length) (hl : is.length * 80 ≤ 140737488355328) : Runs lp 53 [.rs 0 0 (List.length is), .p (.int .i64 (k : Int)), .p (.int .i64 (IntKind.wrap .i64 ((k : Int) + 1)))] [.row (Ai (Ac is))] (.rs 0 0 (List.length is - 1), [.row (Bs (Ac (is.eraseIdx k)))]) := by
 have h1 := Qy hk (by omega)
 have h2 := kne hk (by omega)
 refine ifE (delV0 (h2) (h1) (by omega) (by omega) (by omega) (by omega) (by omega) (by omega) (fun hE => by have := of_decide_eq_true hE; omega) (fun hE => by have := of_decide_eq_true hE; omega) (fun hE => by have := of_decide_eq_true hE; omega) (fun hE => by have := of_decide_eq_false hE; first | omega | (simp only [List.length_append, List.length_take, List.length_drop]; omega)) (fun hE => by have := of_decide_eq_false hE; first | omega | (simp only [List.length_append, List.length_take, List.length_drop]; omega)) (fun hE => by have := of_decide_eq_false hE; first | omega | (simp only [List.length_append, List.length_take, List.length_drop]; omega)) (fun hE => by have := of_decide_eq_false hE; first | omega | (simp only [List.length_append, List.length_take, List.length_drop]; omega)) (fun hE => by have := of_decide_eq_false hE; first | omega | (simp only [List.length_append, List.length_take, List.length_drop]; omega)) (fun hE => by have := of_decide_eq_false hE; first | omega | (simp only [List.length_append, List.length_take, List.length_drop]; omega)) (fun hE => by have := of_decide_eq_false hE; first | omega | (simp only [List.length_append, List.length_take, List.length_drop]; omega)) (fun hE => by have := of_decide_eq_false hE; first | omega | (simp only [List.length_append, List.length_take, List.length_drop]; omega)) (fun hE => by have := of_decide_eq_false hE; first | omega | (simp only [List.length_append, List.length_take, List.length_drop]; omega)) (fun hE => by have := of_decide_eq_false hE; first | omega | (simp only [List.length_append, List.length_take, List.length_drop]; omega)) (fun hE => by have := of_decide_eq_false hE; first | omega | (simp only [List.length_append, List.length_take, List.length_drop]; omega)) (fun hE => by have := of_decide_eq_false hE; first | omega | (simp only [List.length_append, List.length_take, List.length_drop]; omega))) ?_
 by_cases hq : k + 1 = is.length
 ·rw [decide_eq_true hq, if_pos rfl, L6 is k hq, show k = is.length - 1 by omega]
 ·rw [decide_eq_false hq, L5 is k hk, show k + (is.length - (k + 1)) = is.length - 1 by omega]; rfl
theorem Uc {v : Val} {i : Nat} {j : Int} (hv : okV v) (hi : i < (iV v).length) (hn : kV v ≠ 6 → i < (mV v).length) (hj : j = (i : Int)) : Runs lp 40 [B9 v, .p (.int .i64 j)] [] (B9 (At v i), []) := by
 subst hj
 have sw := tSwap (i := i) (j := (i : Int)) (x := Ex) hv hi rfl
 obtain ⟨k, n, s, is, ns⟩ := v
 obtain ⟨_, hnn, hs, hil, hnl, hns, his⟩ := C4 hv
 simp only [iV, kV, mV] at hi hn
 have hne : is ≠ [] := by rintro rfl; simp at hi
 have hK : (k == 6) = false → i < ns.length := fun h => hn (by simpa using h)
 have hnn2 : (k == 6) = false → ns ≠ [] := fun h e => by have := hK h; subst e; simp at this
 have le1 := List.length_eraseIdx_of_lt hi
 refine ifE (wo0 (fun hK6 => tNull) (fun hK6 => sw) (fun hK6 => clV hil hne) (fun hK6 => delV hi hil) (fun hK6 => T5 hnl (hnn2 hK6)) (fun hK6 => delN (hK hK6) hnl) (fun hK6 => by rw [Ah, le1]) (fun hK6 => by have le2 := List.length_eraseIdx_of_lt (hK hK6); rw [Ak, List.length_append, le2]; simp) (fun hK6 => by have le2 := List.length_eraseIdx_of_lt (hK hK6); rw [Dk, List.take_append_of_le_length (by rw [Ak, le2]; exact Nat.le_refl _), List.take_of_length_le (by rw [Ak, le2]; exact Nat.le_refl _)])) ?_
 rw [At]
 cases h6 : (k == 6) <;> rfl
theorem Ud {v : Val} {p : List UInt8} {i : Nat} (hm : Bc v = true) (h : Aa v p = (i : Int)) : kV v ≠ 6 → i < (mV v).length := by
 intro hk
 obtain ⟨k, n, s, is, ns⟩ := v
 by_cases h7 : k = 7
 ·subst h7
  rw [Gu] at h
  split at h
  ·rename_i hp
   have := List.idxOf_lt_length_of_mem hp
   simp only [mV]; omega
  ·omega
 ·rw [Jt (show k ≠ 6 from hk) h7] at h; omega
theorem Qz {p q : List UInt8} {r : List (List UInt8)} : decide (((List.length (Ab (p :: q :: r)) : Nat) : Int) > 1) = true := by rw [Ak, decide_eq_true_eq]; simp only [List.length_cons]; omega
theorem Q0 {p : List UInt8} : decide (((List.length (Ab [p]) : Nat) : Int) > 1) = false := by simp [Ab]
theorem tAtW {B : Nat} (hB : B ≤ 1000000000) : ∀ (ps : List (List UInt8)) (v : Val), ps ≠ [] → okW B v → Bc v = true →
  Runs lp 39 [B9 v, .p (.sl (Ab ps)), .fn (.func 40) [] []] [] (B9 (atV At ps v), [])
 | [], v, hne, hv, hm => absurd rfl hne
 | p :: r, v, hne, hv, hm => by
  have hvo := I2 (by omega) _ hv
  have hplc := tPlace (st := p) hvo
  rcases Ce hm p with h | ⟨i, y, h, hi, hym, hy⟩
  ·rw [C2 h]
   obtain ⟨k, n, s, is, ns⟩ := v
   have no : ∀ {q : Prop}, decide (Aa (.mk k n s is ns) p < 0) = false → q := fun hP => by rw [h] at hP; simp at hP
   refine ifE (atW (ke := 0) (ne := 0) (se := []) (ise := []) (nse := []) (Y := Ex) (W := Ex) (hplc) (fun hP hQ => no hP) (fun hP hQ => no hP) (fun hP hQ => no hP) (fun hP hQ => no hP) (fun hP hQ => no hP)) ?_
   rw [h]; rfl
  ·have hlt := (List.getElem?_eq_some_iff.1 hi).1
   have ht : (Aa v p).toNat = i := by rw [h]; simp
   have hge : decide ((i : Int) < 0) = false := by simp
   cases r with
   | nil =>
    have wo := Uc (j := Aa v p) hvo hlt (Ud hm h) h
    have e : atV At [p] v = At v i := by rw [Hc, h, if_neg (by omega), Int.toNat_natCast]
    rw [e]
    generalize hW : At v i = W at *
    obtain ⟨kW, nW, sW, iW, mW⟩ := W
    obtain ⟨k, n, s, is, ns⟩ := v
    have no : ∀ {q : Prop}, decide (Aa (.mk k n s is ns) p < 0) = true → q := fun hP => by rw [h] at hP; simp at hP <;> omega
    have no1 : ∀ {q : Prop}, decide (((List.length (Ab [p]) : Nat) : Int) > 1) = true → q := fun hP => by rw [Q0] at hP; cases hP
    refine ifE (atW (ke := 0) (ne := 0) (se := []) (ise := []) (nse := []) (Y := Ex) (W := .mk kW nW sW iW mW) (hplc) (fun hP hQ => no1 hQ) (fun hP hQ => no1 hQ) (fun hP hQ => no1 hQ) (fun hP hQ => no1 hQ) (fun hP hQ => wo)) ?_
    rw [h, hge, Q0]; rfl
   | cons q t =>
    have ih := tAtW hB (q :: t) y (by simp) (Js hv hi) hy
    rw [Hd h hi]
    generalize hS : atV At (q :: t) y = Y at *
    obtain ⟨kY, nY, sY, iY, mY⟩ := Y
    have sw := tSwap (i := i) (j := Aa v p) (x := .mk kY nY sY iY mY) hvo hlt h
    obtain ⟨k, n, s, is, ns⟩ := v
    obtain ⟨ke, ne, se, ise, nse⟩ := y
    have no : ∀ {q : Prop}, decide (Aa (.mk k n s is ns) p < 0) = true → q := fun hP => by rw [h] at hP; simp at hP <;> omega
    have no1 : ∀ {q_1 : Prop}, decide (((List.length (Ab (p :: q :: t)) : Nat) : Int) > 1) = false → q_1 := fun hP => by rw [Qz] at hP; cases hP
    refine ifE (atW (ke := ke) (ne := ne) (se := se) (ise := ise) (nse := nse) (Y := .mk kY nY sY iY mY) (W := Ex) (hplc) (fun hP hQ => by rw [h]; omega) (fun hP hQ => by rw [ht]; exact hi) (fun hP hQ => ih) (fun hP hQ => by rw [ht]; exact sw) (fun hP hQ => no1 hQ)) ?_
    rw [ht, h, hge, Qz]; rfl
end Go.Proofs.Ytpkmddkodchanaa

import Derived.Test.YtpkmddkodchanaaLsDrw
set_option linter.unusedVariables false
set_option linter.unusedSimpArgs false
set_option maxRecDepth 100000
namespace Go.Proofs.Ytpkmddkodchanaa
open Go Go.LS
theorem Q1 {ps : List (List UInt8)} (h : Af ps = true) : ps ≠ [] := by rintro rfl; simp [Af] at h
theorem tDropF {B : Nat} (hB : B ≤ 1000000000) {v : Val} (hv : okW B v) {ps : List (List UInt8)} (hp : ps.length ≤ 140737488355328) :
  Runs lp 22 [B9 v, .p (.sl (Ab ps))] [] (.tup [B9 (Ag (An v ps (Af ps)) ps v).1, .p (.int .i64 (Ag (An v ps (Af ps)) ps v).2)], []) := by
 have hvo := I2 (by omega) _ hv
 have hc := tChk hvo hp
 unfold Ag
 cases h0 : (An v ps (Af ps) == 0) with
 | false =>
  rw [if_neg (by decide)]
  obtain ⟨k, n, s, is, ns⟩ := v
  have no : ∀ {x : Prop}, (An (.mk k n s is ns) ps (Af ps) == 0) = true → x := fun h => by rw [h0] at h; cases h
  refine ifE (tDr0 (W := Ex) (hc) (fun h0 => no h0) (fun h0 => no h0)) ?_
  rw [h0]; rfl
 | true =>
  rw [if_pos rfl]
  obtain ⟨hd, hq⟩ := Kr h0
  have a := tAtW hB ps v (Q1 hq) hv (I0 hd)
  have c := vClone _ (I2 (by omega) _ (Ny (f := At) (fun v i h => Gt h) ps v hv))
  generalize hW : atV At ps v = W at *
  obtain ⟨kW, nW, sW, iW, mW⟩ := W
  obtain ⟨k, n, s, is, ns⟩ := v
  refine ifE (tDr0 (W := .mk kW nW sW iW mW) (hc) (fun _ => a) (fun _ => c)) ?_
  rw [h0]; rfl
theorem Ue {B : Nat} (hB : B ≤ 1000000000) : ∀ (ps : List (List UInt8)) (v : Val), ps ≠ [] → okW B v → Bc v = true →
  Runs lp 24 [B9 v, .p (.sl (Ab ps))] [] (B9 (atV At ps v), [])
 | [], v, hne, hv, hm => absurd rfl hne
 | p :: r, v, hne, hv, hm => by
  have hvo := I2 (by omega) _ hv
  have hplc := rPlace (st := p) hvo
  obtain ⟨hg1, hg2⟩ : ((iV v).length + 1) * 80 ≤ 140737488355328 ∧ ((mV v).length + 1) * 16 ≤ 140737488355328 := by
   obtain ⟨k, n, s, is, ns⟩ := v
   obtain ⟨_, _, _, a, b, _, _⟩ := Ha hv
   simp only [iV, mV]; omega
  rcases Ce hm p with h | ⟨i, y, h, hi, hym, hy⟩
  ·rw [C2 h]
   obtain ⟨k, n, s, is, ns⟩ := v
   have no : ∀ {q : Prop}, decide (Aa (.mk k n s is ns) p < 0) = false → q := fun hP => by rw [h] at hP; simp at hP
   refine ifE (rDr0 (ke := 0) (ne := 0) (se := []) (ise := []) (nse := []) (Y := Ex) (W := Ex) (hplc) (fun hP hQ => no hP) (fun hP hQ => no hP) (fun hP hQ => no hP) (fun hP hQ => no hP) (fun hP hQ hK6 => no hP) (fun hP hQ hK6 => no hP) (fun hP hQ hK6 => no hP) (fun hP hQ hK6 => no hP) (fun hP hQ hK6 => no hP) (fun hP hQ hK6 => no hP) (fun hP hQ hK6 _ _ => no hP) (fun hP hQ hK6 _ _ => no hP) (fun hP hQ hK6 _ _ _ _ => no hP) (fun hP hQ hK6 _ _ _ => no hP) (fun hP hQ hK6 _ _ _ => no hP) (fun hP hQ hK6 _ _ => no hP) (fun hP hQ hK6 _ _ => no hP) (fun hP hQ hK6 _ _ => no hP) (fun hP hQ hK6 _ _ _ _ => no hP) (fun hP hQ hK6 _ _ _ => no hP) (fun hP hQ hK6 _ _ _ => no hP) (fun hP hQ hK6 _ => no hP) (fun hP hQ hK6 _ => no hP) (fun hP hQ hK6 _ => no hP) (fun hP hQ hK6 _ => no hP) (fun hP hQ hK6 _ _ _ => no hP) (fun hP hQ hK6 _ _ => no hP) (fun hP hQ hK6 _ _ => no hP)) ?_
   rw [h]; rfl
  ·have hlt := (List.getElem?_eq_some_iff.1 hi).1
   have ht : (Aa v p).toNat = i := by rw [h]; simp
   have hge : decide ((i : Int) < 0) = false := by simp
   cases r with
   | nil =>
    have e : atV At [p] v = At v i := by rw [Hc, h, if_neg (by omega), Int.toNat_natCast]
    rw [e]
    have sw := rWith (i := i) (j := Aa v p) (nm := []) (x := Ex) hvo h hg1 hg2
    rw [if_pos hlt] at sw
    have cz := Vn hvo
    have hN := Ud hm h
    obtain ⟨k, n, s, is, ns⟩ := v
    simp only [iV, mV, kV] at hlt hg1 hg2 hN
    have hKn : (k == 6) = false → i < ns.length := fun q => hN (by simpa using q)
    have hw := Qy hlt (by omega)
    have no : ∀ {q : Prop}, decide (Aa (.mk k n s is ns) p < 0) = true → q := fun hP => by rw [h] at hP; simp at hP <;> omega
    have no1 : ∀ {q : Prop}, decide (((List.length (Ab [p]) : Nat) : Int) > 1) = true → q := fun hP => by rw [Q0] at hP; cases hP
    refine ifE (rDr0 (ke := 0) (ne := 0) (se := []) (ise := []) (nse := []) (Y := Ex) (W := C6 (.mk k n s is ns) i Ex) (hplc) (fun hP hQ => no1 hQ) (fun hP hQ => no1 hQ) (fun hP hQ => no1 hQ) (fun hP hQ => no1 hQ) (fun hP hQ hK6 => sw) (fun hP hQ hK6 => cz) (fun hP hQ hK6 => by rw [ht]; exact h) (fun hP hQ hK6 => by rw [ht]; (try have hk := hKn hK6); (try simp only [List.length_take, List.length_drop]); omega) (fun hP hQ hK6 => by rw [ht, h]; exact hw) (fun hP hQ hK6 => by rw [ht]; (try have hk := hKn hK6); (try simp only [List.length_take, List.length_drop]); omega) (fun hP hQ hK6 _ _ => by rw [ht]; (try have hk := hKn hK6); (try simp only [List.length_take, List.length_drop]); omega) (fun hP hQ hK6 _ _ => by rw [ht]; (try have hk := hKn hK6); (try simp only [List.length_take, List.length_drop]); omega) (fun hP hQ hK6 _ _ _ _ => by rw [ht]; (try have hk := hKn hK6); (try simp only [List.length_take, List.length_drop]); omega) (fun hP hQ hK6 _ _ _ => by rw [ht]; (try have hk := hKn hK6); (try simp only [List.length_take, List.length_drop]); omega) (fun hP hQ hK6 _ _ _ => by rw [ht]; (try have hk := hKn hK6); (try simp only [List.length_take, List.length_drop]); omega) (fun hP hQ hK6 _ _ => by rw [ht]; (try have hk := hKn hK6); (try simp only [List.length_take, List.length_drop]); omega) (fun hP hQ hK6 _ _ => by rw [ht]; (try have hk := hKn hK6); (try simp only [List.length_take, List.length_drop]); omega) (fun hP hQ hK6 _ _ => by rw [ht]; (try have hk := hKn hK6); (try simp only [List.length_take, List.length_drop]); omega) (fun hP hQ hK6 _ _ _ _ => by rw [ht]; (try have hk := hKn hK6); (try simp only [List.length_take, List.length_drop]); omega) (fun hP hQ hK6 _ _ _ => by rw [ht]; (try have hk := hKn hK6); (try simp only [List.length_take, List.length_drop]); omega) (fun hP hQ hK6 _ _ _ => by rw [ht]; (try have hk := hKn hK6); (try simp only [List.length_take, List.length_drop]); omega) (fun hP hQ hK6 _ => by rw [ht]; (try have hk := hKn hK6); (try simp only [List.length_take, List.length_drop]); omega) (fun hP hQ hK6 _ => by rw [ht]; (try have hk := hKn hK6); (try simp only [List.length_take, List.length_drop]); omega) (fun hP hQ hK6 _ => by rw [ht]; (try have hk := hKn hK6); (try simp only [List.length_take, List.length_drop]); omega) (fun hP hQ hK6 _ => by rw [ht]; (try have hk := hKn hK6); (try simp only [List.length_take, List.length_drop]); omega) (fun hP hQ hK6 _ _ _ => by rw [ht]; (try have hk := hKn hK6); (try simp only [List.length_take, List.length_drop]); omega) (fun hP hQ hK6 _ _ => by rw [ht]; (try have hk := hKn hK6); (try simp only [List.length_take, List.length_drop]); omega) (fun hP hQ hK6 _ _ => by rw [ht]; (try have hk := hKn hK6); (try simp only [List.length_take, List.length_drop]); omega)) ?_
    rw [ht, h, hge, Q0, At]
    cases h6 : (k == 6)
    ·simp only [Bool.false_eq_true, if_false]
     rw [List.eraseIdx_eq_take_drop_succ, List.eraseIdx_eq_take_drop_succ]
     by_cases e1 : List.take i is = [] <;> by_cases e2 : List.drop (i + 1) is = [] <;> by_cases e3 : List.take i ns = [] <;> by_cases e4 : List.drop (i + 1) ns = [] <;> simp [e1, e2, e3, e4] <;> first | rfl | exact ⟨rfl, rfl⟩
    ·rfl
   | cons q t =>
    have ih := Ue hB (q :: t) y (by simp) (Js hv hi) hy
    rw [Hd h hi]
    generalize hS : atV At (q :: t) y = Y at *
    obtain ⟨kY, nY, sY, iY, mY⟩ := Y
    have sw := rWith (i := i) (j := Aa v p) (nm := []) (x := .mk kY nY sY iY mY) hvo h hg1 hg2
    rw [if_pos hlt] at sw
    obtain ⟨k, n, s, is, ns⟩ := v
    obtain ⟨ke, ne, se, ise, nse⟩ := y
    have no : ∀ {q : Prop}, decide (Aa (.mk k n s is ns) p < 0) = true → q := fun hP => by rw [h] at hP; simp at hP <;> omega
    have no1 : ∀ {q_1 : Prop}, decide (((List.length (Ab (p :: q :: t)) : Nat) : Int) > 1) = false → q_1 := fun hP => by rw [Qz] at hP; cases hP
    refine ifE (rDr0 (ke := ke) (ne := ne) (se := se) (ise := ise) (nse := nse) (Y := .mk kY nY sY iY mY) (W := C6 (.mk k n s is ns) i (.mk kY nY sY iY mY)) (hplc) (fun hP hQ => by rw [h]; omega) (fun hP hQ => by rw [ht]; exact hi) (fun hP hQ => ih) (fun hP hQ => sw) (fun hP hQ hK6 => no1 hQ) (fun hP hQ hK6 => no1 hQ) (fun hP hQ hK6 => no1 hQ) (fun hP hQ hK6 => no1 hQ) (fun hP hQ hK6 => no1 hQ) (fun hP hQ hK6 => no1 hQ) (fun hP hQ hK6 _ _ => no1 hQ) (fun hP hQ hK6 _ _ => no1 hQ) (fun hP hQ hK6 _ _ _ _ => no1 hQ) (fun hP hQ hK6 _ _ _ => no1 hQ) (fun hP hQ hK6 _ _ _ => no1 hQ) (fun hP hQ hK6 _ _ => no1 hQ) (fun hP hQ hK6 _ _ => no1 hQ) (fun hP hQ hK6 _ _ => no1 hQ) (fun hP hQ hK6 _ _ _ _ => no1 hQ) (fun hP hQ hK6 _ _ _ => no1 hQ) (fun hP hQ hK6 _ _ _ => no1 hQ) (fun hP hQ hK6 _ => no1 hQ) (fun hP hQ hK6 _ => no1 hQ) (fun hP hQ hK6 _ => no1 hQ) (fun hP hQ hK6 _ => no1 hQ) (fun hP hQ hK6 _ _ _ => no1 hQ) (fun hP hQ hK6 _ _ => no1 hQ) (fun hP hQ hK6 _ _ => no1 hQ)) ?_
    rw [h, hge, Qz]; rfl
end Go.Proofs.Ytpkmddkodchanaa

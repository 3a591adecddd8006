import Derived.Test.YtmbjojnldbeicaaLsIm7W
set_option linter.unusedVariables false
set_option linter.unusedSimpArgs false
set_option maxRecDepth 100000
namespace Go.Proofs.Ytmbjojnldbeicaa
open Go Go.LS
theorem Ig {kp t : Int} {R : List (Option Val)} {x : Option Val} (h : Dw R) (hx : ∀ v, x = some v → okW v) : Dw (Bj kp t R x) := by
 intro v hv
 unfold Bj at hv
 split at hv
 ·rcases List.mem_or_eq_of_mem_set hv with hv | hv
  ·exact h v hv
  ·exact hx v hv.symm
 ·exact h v hv
theorem E4 {L : List (Option Val)} {x : Option Val} (h : Dw L) (hx : ∀ v, x = some v → okW v) : Dw (L ++ [x]) := by
 intro v hv
 rcases List.mem_append.1 hv with hv | hv
 ·exact h v hv
 ·exact hx v (List.mem_singleton.1 hv).symm
theorem Ml {kp : Int} : ∀ (M : List (Option Val)) {t : Int} {R : List (Option Val)}, Dw R → Dw M → Dw (putAll kp t R M)
 | [], t, R, h, _ => h
 | x :: r, t, R, h, hM => Ml r (Ig h (fun v e => hM v (by rw [e]; exact List.mem_cons_self))) (fun v hv => hM v (List.mem_cons_of_mem _ hv))
theorem Tt {n : Nat} : Dw (List.replicate n none) := fun v hv => by have := List.eq_of_mem_replicate hv; cases this
theorem Rel.note {kp b t xb : Int} {R L : List (Option Val)} (h : Rel kp b t R xb L) {x : Option Val} (hx : ∀ v, x = some v → okW v) (hl : L.length < 1000000) : Rel kp b (t + 1) (Bj kp t R x) xb (L ++ [x]) := by
 refine ⟨h.inv.note x, h.base.next, ⟨h.bnd.k0, h.bnd.k1, h.bnd.b0, h.bnd.b1, by simp; omega, fun v hv => ?_⟩, Qw h.okr fun v e => (hx v e).1⟩
 rcases List.mem_append.1 hv with hv | hv
 ·exact h.bnd.oks v hv
 ·exact (hx v (List.mem_singleton.1 hv).symm).1
theorem Rel.least {kp b t xb : Int} {R L : List (Option Val)} (h : Rel kp b t R xb L) : Bi kp b t = xb + frX kp xb L + 1 := by
 rw [Ps h.base]
 have := h.inv.top
 unfold frX A5
 split <;> omega
theorem Rel.ring {kp b t xb : Int} {R L : List (Option Val)} (h : Rel kp b t R xb L) : F8 kp R (Bi kp b t) (t + 1 - Bi kp b t).toNat = L.drop (frX kp xb L) := by
 have e := h.least
 have ht := h.inv.top
 have hk := h.inv.k0
 have hf : ((frX kp xb L : Nat) : Int) ≤ L.length := by unfold frX A5; omega
 have hg : t - kp - xb ≤ ((frX kp xb L : Nat) : Int) := by unfold frX A5; omega
 rw [S0 h.inv _ (Bi kp b t) (by omega) (by omega) (by omega)]
 congr 1
 omega
theorem rdE_back {o : Option Val} (h : ∀ v, o = some v → okW v) (rest : List UInt8) : rdE (Jq o ++ rest, false) = (o, (rest, false)) := by
 unfold rdE
 cases o with
 | none =>
  have e : Aq (Jq none ++ rest, false) = (0, rest, false) := C6 (k := 0) ⟨by omega, by omega⟩ rest
  rw [e]; rfl
 | some v =>
  obtain ⟨h1, h2, h3⟩ := h v rfl
  have e : Aq (Jq (some v) ++ rest, false) = (1, Bu v ++ rest, false) := C6 (k := 1) ⟨by omega, by omega⟩ (Bu v ++ rest)
  rw [e]
  have := Ys h1 h2 h3 rest
  simp only [this]
  rfl
theorem Tu : ∀ (M : List (Option Val)), Dw M → rdF M.length (Da M, false) = (M, ([], false))
 | [], _ => by simp [rdF, Da]
 | x :: r, h => by
  have e : Da (x :: r) = Jq x ++ Da r := by simp [Da]
  simp only [List.length_cons, rdF, Bool.false_eq_true, if_false]
  rw [e, rdE_back (fun v hv => h v (by rw [hv]; exact List.mem_cons_self)), Tu r (fun v hv => h v (List.mem_cons_of_mem _ hv))]
theorem Tv {kp b t xb : Int} {R L : List (Option Val)} (h : Rel kp b t R xb L) (hL : Dw L) (ht : t ≤ 1099511627776) : rK (Az kp b t R, false) = kp ∧ rB (Az kp b t R, false) = b ∧ rT (Az kp b t R, false) = t ∧
  rL (Az kp b t R, false) = L.drop (frX kp xb L) ∧ rS (Az kp b t R, false) = ([], false) := by
 obtain ⟨n1, n2, n3, n4, n5⟩ := h.nums
 have htt := h.inv.top
 have hb := h.bnd.b0
 have e0 : Az kp b t R = Ab (Int.toNat kp) ++ (Ab (Int.toNat b) ++ (Ab (Int.toNat t) ++ Da (L.drop (frX kp xb L)))) := by
  unfold Az; rw [h.ring]; simp
 have s1 : Ac (Az kp b t R, false) 64 = (kp, Ab (Int.toNat b) ++ (Ab (Int.toNat t) ++ Da (L.drop (frX kp xb L))), false) := by
  have := E3 (n := Int.toNat kp) (most := 64) (by omega) (by omega) (Ab (Int.toNat b) ++ (Ab (Int.toNat t) ++ Da (L.drop (frX kp xb L))))
  rw [Int.toNat_of_nonneg n1.1, ← e0] at this; exact this
 have s2 : Ac (Ab (Int.toNat b) ++ (Ab (Int.toNat t) ++ Da (L.drop (frX kp xb L))), false) 1099511627776 = (b, Ab (Int.toNat t) ++ Da (L.drop (frX kp xb L)), false) := by
  have := E3 (n := Int.toNat b) (most := 1099511627776) (by omega) (by omega) (Ab (Int.toNat t) ++ Da (L.drop (frX kp xb L)))
  rw [Int.toNat_of_nonneg n2.1] at this; exact this
 have s3 : Ac (Ab (Int.toNat t) ++ Da (L.drop (frX kp xb L)), false) 1099511627776 = (t, Da (L.drop (frX kp xb L)), false) := by
  have := E3 (n := Int.toNat t) (most := 1099511627776) (by omega) (by omega) (Da (L.drop (frX kp xb L)))
  rw [Int.toNat_of_nonneg n4] at this; exact this
 have eK : rK (Az kp b t R, false) = kp := by unfold rK; rw [s1]
 have eB : rB (Az kp b t R, false) = b := by unfold rB; rw [s1, s2]
 have eT : rT (Az kp b t R, false) = t := by unfold rT; rw [s1, s2, s3]
 have e3 : r3 (Az kp b t R, false) = (Da (L.drop (frX kp xb L)), false) := by unfold r3; rw [s1, s2, s3]
 have eR0 : r0 (Az kp b t R, false) = Bi kp b t - 1 := by unfold r0; rw [eK, eB, eT]
 have hl := h.least
 have hf : ((frX kp xb L : Nat) : Int) ≤ L.length := by unfold frX A5; omega
 have eN : (rT (Az kp b t R, false) - r0 (Az kp b t R, false)).toNat = (L.drop (frX kp xb L)).length := by
  rw [eT, eR0, List.length_drop]; omega
 have hF := Tu (L.drop (frX kp xb L)) (fun v hv => hL v (List.mem_of_mem_drop hv))
 refine ⟨eK, eB, eT, ?_, ?_⟩
 ·rw [rL_F, eN, e3, hF]
 ·rw [rS_F _ (by rw [eB, eT]; omega), eN, e3, hF]
theorem F9 {kp b t xb : Int} {R L : List (Option Val)} (h : Rel kp b t R xb L) (hL : Dw L) (ht : t ≤ 1099511627776) : Rel kp b t (rR (Az kp b t R, false)) xb L ∧ Dw (rR (Az kp b t R, false)) := by
 obtain ⟨eK, eB, eT, eL, eS⟩ := Tv h hL ht
 have hs : (rS (Az kp b t R, false)).2 = false := by rw [eS]
 have hr := relRead hs
 have hl := h.least
 have htt := h.inv.top
 have hf : ((frX kp xb L : Nat) : Int) ≤ L.length := by unfold frX A5; have := h.inv.k0; omega
 have hg : t - kp - xb ≤ ((frX kp xb L : Nat) : Int) := by unfold frX A5; omega
 have eR0 : r0 (Az kp b t R, false) = xb + frX kp xb L := by unfold r0; rw [eK, eB, eT, hl]; omega
 have hi := hr.inv
 rw [eK, eT, eL, eR0] at hi
 refine ⟨⟨⟨h.inv.k0, ?_, h.inv.b0, htt, fun i h1 h2 h3 => ?_⟩, h.base, h.bnd, ?_⟩, ?_⟩
 ·have := hr.okr.1; rw [eK] at this; exact this
 ·by_cases hx : xb + (frX kp xb L : Int) < i
  ·rw [hi.at_ i hx h2 h3]
   unfold Au
   rw [List.getD, List.getD, List.getElem?_drop]
   congr 2
   omega
  ·exfalso
   have : ((frX kp xb L : Nat) : Int) = max (t - kp - xb) 0 := by unfold frX A5; omega
   omega
 ·have := hr.okr; rw [eK] at this; exact this
 ·unfold rR
  refine Ml _ Tt ?_
  rw [eL]
  exact fun v hv => hL v (List.mem_of_mem_drop hv)
theorem Rf {v : Val} (hv : okV v) (h : Bc v = false) (hc : Bp v = 0) : okW v := ⟨hv, hc, sizeW_eq hv h⟩
theorem Ga {v : Val} (hv : okV v) (h : Bc v = false) : Bg v ≤ 1000000 := by
 have := Sk hv h; omega
theorem mayXR {kp b : Int} : Runs lp 10 [.p (.int .i64 kp), .p (.int .i64 b)] [] (.p (.bool (wI kp 64 && wI b 1099511627776)), []) := by
 refine ifE may0 ?_
 unfold wI
 by_cases h1 : kp ≥ 0 <;> by_cases h2 : kp ≤ 64 <;> by_cases h3 : b ≥ 0 <;> simp [h1, h2, h3]
theorem mayXF {kp b : Int} (h : (wI kp 64 && wI b 1099511627776) = false) : Runs lp 10 [.p (.int .i64 kp), .p (.int .i64 b)] [] (.p (.bool false), []) := by have := mayXR (kp := kp) (b := b); rwa [h] at this
theorem mayXT {kp b : Int} (h : (wI kp 64 && wI b 1099511627776) = true) : Runs lp 10 [.p (.int .i64 kp), .p (.int .i64 b)] [] (.p (.bool true), []) := by have := mayXR (kp := kp) (b := b); rwa [h] at this
theorem Gb {kp b t : Int} {R : List (Option Val)} (hk : kp ≤ 64) (ht : 0 ≤ t ∧ t ≤ 1000000000000000) (hR : okR kp R) :
  Runs lp 13 [.ptr 0 0 0, .agg [.p (.int .i64 0), .p (.int .i64 0), .p (.str []), .p (.sl []), .p (.sl [])], .p (.bool false)] [imO kp b t, .row (Aa R)] (.p (.int .i64 0), [imO kp b (t + 1), .row (Aa (Bj kp t R none))]) :=
 Ve (v := .mk 0 0 [] [] []) hk ht hR
theorem Pt {b t : Int} {v : Val} (hv : okV v) (hd : Bg v ≤ 1000000) (ht : 0 ≤ t ∧ t ≤ 1000000000000000) :
  Runs lp 13 [.ptr 0 0 0, Es v, .p (.bool true)] [imZ b t] (if (Bp v == 0) = true then (.p (.int .i64 0), [imZ b (t + 1)]) else (.p (.int .i64 20), [imZ b t])) := by
 have hw : IntKind.wrap .i64 (t + 1) = t + 1 := A9 (by omega) (by omega)
 have hc := Qi v hv hd
 have hcl := Ux v hv
 obtain ⟨k, n, s, is, ns⟩ := v
 have hn := zNoteV (b := b) (t := t) (k := k) (n := n) (s := s) (is := is) (ns := ns)
 rw [hw] at hn
 exact zNoteYes hc (fun _ => hcl) (fun _ => hn)
theorem Gz {b t k n : Int} {s : List UInt8} {is : List Val} {ns : List (List UInt8)} (ht : 0 ≤ t ∧ t ≤ 1000000000000000) :
  Runs lp 13 [.ptr 0 0 0, .agg [.p (.int .i64 k), .p (.int .i64 n), .p (.str s), .p (.sl (Ad is)), .p (.sl (Ak ns))], .p (.bool false)] [imZ b t] (.p (.int .i64 0), [imZ b (t + 1)]) := by
 have hw : IntKind.wrap .i64 (t + 1) = t + 1 := A9 (by omega) (by omega)
 have hn := zNoteN (b := b) (t := t)
 rw [hw] at hn
 exact zNoteNo hn
end Go.Proofs.Ytmbjojnldbeicaa

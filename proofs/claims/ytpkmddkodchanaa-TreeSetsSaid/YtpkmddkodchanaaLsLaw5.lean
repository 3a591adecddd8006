import Derived.Test.YtpkmddkodchanaaLsLaw5W
import Derived.Test.YtpkmddkodchanaaLsClo
set_option linter.unusedVariables false
set_option linter.unusedSimpArgs false
set_option maxRecDepth 100000
namespace Go.Proofs.Ytpkmddkodchanaa
open Go Go.LS
abbrev fx (v : Val) : LV := .agg [.p (.int .i64 (kV v)), .p (.int .i64 (nV v)), .p (.str (sV v)), .p (.sl (rowsV (iV v))), .p (.sl (rowsN (mV v)))]
theorem sameX (a b : Val) (ha : okV a) (hb : okV b) : Runs lp 15 [fx a, fx b] [] (.p (.bool (sameV a b)), []) := by
  have := rSame a ha b hb
  rw [encV_fx, encV_fx] at this; exact this
theorem getX {v : Val} (hv : okV v) {ps : List (List UInt8)} (hp : ps.length ≤ 140737488355328) : Runs lp 10 [fx v, .p (.sl (rowsN ps))] [] (.tup [fx ((gotV v ps).getD zeroV), .p (.bool (gotV v ps).isSome)], []) := by
  have := (tGet hv hp).1
  rw [encV_fx, encV_fx] at this; exact this
theorem setX {B : Nat} (hB : B < 1000000000) {v x : Val} (hv : okW B v) (hx : okW B x) {ps : List (List UInt8)} (hp : ps.length ≤ 140737488355328) (hpl : ∀ p ∈ ps, p.length ≤ 140737488351232) :
    Runs lp 18 [fx v, .p (.sl (rowsN ps)), fx x] [] (.tup [fx (setT (chkV v ps (pathB ps)) ps v x).1, .p (.int .i64 (setT (chkV v ps (pathB ps)) ps v x).2)], []) := by
  have := tSetF hB hv hx hp hpl
  rw [encV_fx, encV_fx, encV_fx] at this; exact this
theorem setRX {B : Nat} (hB : B ≤ 1000000000) {v x : Val} (hv : okW B v) (hx : okW B x) (hm : mayV v = true) {ps : List (List UInt8)} (hp : ps.length ≤ 140737488355328) (hpl : ∀ p ∈ ps, p.length ≤ 140737488351232) :
    Runs lp 20 [fx v, .p (.sl (rowsN ps)), fx x] [] (.tup [fx (setR ps v x).1, .p (.bool (setR ps v x).2)], []) := by
  have := rSetL hB hx ps v hv hm hpl hp
  rw [encV_fx, encV_fx, encV_fx] at this; exact this
theorem okZ {B : Nat} : okW B zeroV := okW_mk ⟨by omega, by omega, by simp, by simp, by simp, by simp, by simp⟩
theorem okW_setT {B : Nat} {e : Int} {v x : Val} {ps : List (List UInt8)} (hv : okW B v) (hx : okW B x) (hpl : ∀ p ∈ ps, p.length ≤ 140737488351232) : okW (B + 1) (setT e ps v x).1 := by
  unfold setT
  split
  · exact okZ
  · split
    · split
      · exact okW_set hx ps v hv hpl
      · exact okZ
    · exact okZ
theorem okV_got {v : Val} (hv : okV v) {ps : List (List UInt8)} (hp : ps.length ≤ 140737488355328) : okV ((gotV v ps).getD zeroV) := (tGet hv hp).2
theorem largeL {v : Val} (hok : okV v) {ps : List (List UInt8)} : Runs lp 8 [encV v, .p (.sl (rowsN ps))] [] (.p (.bool (largeV v || decide (((List.length (rowsN ps) : Nat) : Int) > 50))), []) := by
  have hl := rLarge v hok
  obtain ⟨k, n, s, is, ns⟩ := v
  refine ifE (large0 hl) ?_
  cases largeV (.mk k n s is ns) <;> rfl
theorem doc7 {v : Val} (h : docV v = true) : kV v = 7 := by
  obtain ⟨k, n, s, is, ns⟩ := v
  simp only [docV, kindV, Bool.and_eq_true, beq_iff_eq] at h
  exact h.1
theorem docI {v : Val} (h1 : kV v = 7) (h2 : mayV v = true) : docV v = true := by
  obtain ⟨k, n, s, is, ns⟩ := v
  simp only [docV, kindV, h2, Bool.and_true, beq_iff_eq]
  exact h1
theorem chk0 {v : Val} {ps : List (List UInt8)} (h : docV v = true) (hp : pathB ps = true) : chkV v ps (pathB ps) = 0 := by unfold chkV; rw [if_pos h, if_pos hp]
theorem chkF {v : Val} {ps : List (List UInt8)} {p : Bool} (h : docV v = false) : chkV v ps p = 20 := by unfold chkV; rw [if_neg (by rw [h]; decide)]
theorem got0 {v : Val} {ps : List (List UInt8)} (h : docV v = true) (hp : pathB ps = true) : gotV v ps = getV ps v := by unfold gotV; rw [chk0 h hp]; rfl
theorem lawSetsR {v x : Val} (hok : okV v) (hox : okV x) {ps : List (List UInt8)} (hp : ps.length ≤ 140737488355328) (sp : ∀ q ∈ ps, q.length ≤ 140737488351232) : Runs lp 4 [encV v, .p (.sl (rowsN ps)), encV x] [] (.p (.bool true), []) := by
  have hlg := largeL hok (ps := ps)
  have sp' : ∀ q ∈ ps, q.length ≤ 140737488355328 := fun q hq => by have := sp q hq; omega
  have hwr := wrongL hok hp sp'
  have hW : (largeV v || decide (((List.length (rowsN ps) : Nat) : Int) > 50)) = false → okW 3000 v := fun h => okW_of hok (by cases hl : largeV v <;> simp_all)
  have hXW : largeV x = false → okW 3000 x := okW_of hox
  have hdoc := rDoc hok
  have hmx := rMay x hox
  have hlx := rLarge x hox
  have hcz := rCloneZ hok
  generalize (largeV v || decide (((List.length (rowsN ps) : Nat) : Int) > 50)) = lg at *
  obtain ⟨k, n, s, is, ns⟩ := v
  obtain ⟨kx, nx, sx, isx, nsx⟩ := x
  have oS : lg = false → largeV (Val.mk kx nx sx isx nsx) = false → okW 3001 (setT (chkV (Val.mk k n s is ns) ps (pathB ps)) ps (Val.mk k n s is ns) (Val.mk kx nx sx isx nsx)).1 := fun a b => okW_setT (hW a) (hXW b) sp
  have oR : lg = false → largeV (Val.mk kx nx sx isx nsx) = false → okW 3001 (setR ps (Val.mk k n s is ns) (Val.mk kx nx sx isx nsx)).1 := fun a b => okW_setR (hXW b) ps _ (hW a) sp
  have up : ∀ {B : Nat} {v : Val}, B ≤ 1000000 → okW B v → okV v := fun hB h => okW_okV (by omega) _ h
  refine ifE (lawTreeSets (hlg) (fun a => lives) (fun a => hlx) (fun a b => lives) (fun a b => hcz) (fun a b => setX (B := 3000) (by omega) (hW a) (hXW b) hp sp) (fun a b => lives) (fun a b => sameX _ _ hok hok) (fun a b _ => hwr) (fun a b _ => hdoc) (fun a b _ _ => hmx) (fun a b _ _ _ h0 => setRX (B := 3000) (by omega) (hW a) (hXW b) (doc_may (chk_doc h0).1) hp sp) (fun a b _ _ _ h0 _ => getX (up (by omega) (oS a b)) hp) (fun a b _ _ _ h0 _ => setX (B := 3001) (by omega) (oS a b) (okW_mono (by omega) _ (hXW b)) hp sp) (fun a b _ _ _ h0 _ _ => sameX _ _ (up (by omega) (oS a b)) (up (by omega) (oR a b))) (fun a b _ _ _ h0 _ _ _ hg => sameX _ _ (okV_got (up (by omega) (oS a b)) hp) hox) (fun a b _ _ _ h0 _ _ _ hg _ _ => sameX _ _ (up (B := 3002) (by omega) (okW_setT (oS a b) (okW_mono (by omega) _ (hXW b)) sp)) (up (by omega) (oS a b))) (fun a b _ _ h0 => setRX (B := 3000) (by omega) (hW a) (hXW b) (doc_may (chk_doc h0).1) hp sp) (fun a b _ _ h0 _ => getX (up (by omega) (oS a b)) hp) (fun a b _ _ h0 _ => setX (B := 3001) (by omega) (oS a b) (okW_mono (by omega) _ (hXW b)) hp sp) (fun a b _ _ h0 _ _ => sameX _ _ (up (by omega) (oS a b)) (up (by omega) (oR a b))) (fun a b _ _ h0 _ _ _ hg => sameX _ _ (okV_got (up (by omega) (oS a b)) hp) hox) (fun a b _ _ h0 _ _ _ hg _ _ => sameX _ _ (up (B := 3002) (by omega) (okW_setT (oS a b) (okW_mono (by omega) _ (hXW b)) sp)) (up (by omega) (oS a b)))) ?_
  clear hlg hwr hW hXW hdoc hmx hlx hcz oS oR up
  by_cases hl : lg = true
  · simp [hl]
  by_cases hX : largeV (Val.mk kx nx sx isx nsx) = true
  · simp [hl, hX]
  have sv := sameV_refl (Val.mk k n s is ns)
  by_cases hd : docV (Val.mk k n s is ns) = true
  · have k7 : k = 7 := doc7 hd
    by_cases hm : mayV (Val.mk kx nx sx isx nsx) = true
    · by_cases h0 : ((chkV (Val.mk k n s is ns) ps (pathB ps)) == 0) = true
      · have hpb := (chk_doc h0).2
        have S : setT (chkV (Val.mk k n s is ns) ps (pathB ps)) ps (Val.mk k n s is ns) (Val.mk kx nx sx isx nsx) = if (setV ps (Val.mk k n s is ns) (Val.mk kx nx sx isx nsx)).2 = true then ((setV ps (Val.mk k n s is ns) (Val.mk kx nx sx isx nsx)).1, 0) else (zeroV, 40) := by unfold setT; rw [if_neg (by simp [hm]), if_pos h0]
        obtain ⟨r1, r2⟩ := setR_eq (x := (Val.mk kx nx sx isx nsx)) ps _ (doc_may hd)
        by_cases hs : (setV ps (Val.mk k n s is ns) (Val.mk kx nx sx isx nsx)).2 = true
        · obtain ⟨l1, l2⟩ := set_laws hm ps _ (doc_may hd) (path_all hpb) hs
          rw [if_pos hs] at S
          have d2 : docV (setV ps (Val.mk k n s is ns) (Val.mk kx nx sx isx nsx)).1 = true := docI (by cases ps with | nil => exact absurd rfl (path_ne hpb) | cons a b => rw [kind_set]; exact k7) (may_set hm ps _ (doc_may hd) (path_all hpb))
          have g : gotV (setV ps (Val.mk k n s is ns) (Val.mk kx nx sx isx nsx)).1 ps = some (Val.mk kx nx sx isx nsx) := by rw [got0 d2 hpb]; exact l1
          have S2 : setT (chkV (setV ps (Val.mk k n s is ns) (Val.mk kx nx sx isx nsx)).1 ps (pathB ps)) ps (setV ps (Val.mk k n s is ns) (Val.mk kx nx sx isx nsx)).1 (Val.mk kx nx sx isx nsx) = ((setV ps (Val.mk k n s is ns) (Val.mk kx nx sx isx nsx)).1, 0) := by
            unfold setT; rw [if_neg (by simp [hm]), chk0 d2 hpb, if_pos (by rfl), l2, if_pos rfl]
          simp [hl, hX, sv, hd, hm, h0, r1, hs, S, r2 hs, sameV_refl, g, S2]
        · have hs' : (setV ps (Val.mk k n s is ns) (Val.mk kx nx sx isx nsx)).2 = false := by simpa using hs
          rw [if_neg hs] at S
          simp [hl, hX, sv, hd, hm, h0, r1, hs', S, zeroV, kV]
      · have h0' : ((chkV (Val.mk k n s is ns) ps (pathB ps)) == 0) = false := by simpa using h0
        have S : setT (chkV (Val.mk k n s is ns) ps (pathB ps)) ps (Val.mk k n s is ns) (Val.mk kx nx sx isx nsx) = (zeroV, (chkV (Val.mk k n s is ns) ps (pathB ps))) := by unfold setT; rw [if_neg (by simp [hm]), if_neg h0]
        simp only [S]
        simp [hl, hX, sv, hd, hm, h0', zeroV, kV]
    · have hm' : mayV (Val.mk kx nx sx isx nsx) = false := by simpa using hm
      have S : setT (chkV (Val.mk k n s is ns) ps (pathB ps)) ps (Val.mk k n s is ns) (Val.mk kx nx sx isx nsx) = (zeroV, 20) := by unfold setT; rw [if_pos (by simp [hm', kV, k7])]
      simp [hl, hX, sv, hd, hm', S, zeroV, kV]
  · have hd' : docV (Val.mk k n s is ns) = false := by simpa using hd
    have e20 : (chkV (Val.mk k n s is ns) ps (pathB ps)) = 20 := chkF hd'
    have S : setT (chkV (Val.mk k n s is ns) ps (pathB ps)) ps (Val.mk k n s is ns) (Val.mk kx nx sx isx nsx) = (zeroV, 20) := by
      unfold setT
      split
      · rfl
      · rw [e20, if_neg (by decide)]
    simp only [S]
    simp [hl, hX, sv, hd', e20, zeroV, kV]
end Go.Proofs.Ytpkmddkodchanaa

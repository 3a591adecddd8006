import Derived.Test.YtpkmddkodchanaaLsLaw5W
import Derived.Test.YtpkmddkodchanaaLsClo
set_option linter.unusedVariables false
set_option linter.unusedSimpArgs false
set_option maxRecDepth 100000
namespace Go.Proofs.Ytpkmddkodchanaa
open Go Go.LS
abbrev fx (v : Val) : LV := .agg [.p (.int .i64 (kV v)), .p (.int .i64 (nV v)), .p (.str (sV v)), .p (.sl (rowsV (iV v))), .p (.sl (rowsN (mV v)))]
theorem sameX (a b : Val) (ha : okV a) (hb : okV b) : Runs lp 15 [fx a, fx b] [] (.p (.bool (sameV a b)), []) := by
  have := rSame a ha b hb
  rw [encV_fx, encV_fx] at this; exact this
theorem getX {v : Val} (hv : okV v) {ps : List (List UInt8)} (hp : ps.length ≤ 140737488355328) : Runs lp 10 [fx v, .p (.sl (rowsN ps))] [] (.tup [fx ((gotV v ps).getD zeroV), .p (.bool (gotV v ps).isSome)], []) := by
  have := (tGet hv hp).1
  rw [encV_fx, encV_fx] at this; exact this
theorem setX {B : Nat} (hB : B < 1000000000) {v x : Val} (hv : okW B v) (hx : okW B x) {ps : List (List UInt8)} (hp : ps.length ≤ 140737488355328) (hpl : ∀ p ∈ ps, p.length ≤ 140737488351232) :
    Runs lp 18 [fx v, .p (.sl (rowsN ps)), fx x] [] (.tup [fx (setT (chkV v ps (pathB ps)) ps v x).1, .p (.int .i64 (setT (chkV v ps (pathB ps)) ps v x).2)], []) := by
  have := tSetF hB hv hx hp hpl
  rw [encV_fx, encV_fx, encV_fx] at this; exact this
theorem dropX {B : Nat} (hB : B ≤ 1000000000) {v : Val} (hv : okW B v) {ps : List (List UInt8)} (hp : ps.length ≤ 140737488355328) :
    Runs lp 22 [fx v, .p (.sl (rowsN ps))] [] (.tup [fx (dropT (chkV v ps (pathB ps)) ps v).1, .p (.int .i64 (dropT (chkV v ps (pathB ps)) ps v).2)], []) := by
  have := tDropF hB hv hp
  rw [encV_fx, encV_fx] at this; exact this
theorem cutX {B : Nat} (hB : B ≤ 1000000000) {v : Val} (hv : okW B v) {ps : List (List UInt8)} (hp : ps.length ≤ 140737488355328) {c : Int} :
    Runs lp 23 [fx v, .p (.sl (rowsN ps)), .p (.int .i64 c)] [] (.tup [fx (cutT (chkV v ps (pathB ps)) ps v c).1, .p (.int .i64 (cutT (chkV v ps (pathB ps)) ps v c).2)], []) := by
  have := tCutF hB hv hp (c := c)
  rw [encV_fx, encV_fx] at this; exact this
theorem getTX {v : Val} (hok : okV v) (hm : mayV v = true) {ps : List (List UInt8)} (hp : ps.length ≤ 140737488355328) (hg : (getV ps v).isSome = true) :
    Runs lp 13 [fx v, .p (.sl (rowsN ps))] [] (.tup [fx ((getV ps v).getD zeroV), .p (.bool true)], []) := by
  obtain ⟨a, ha⟩ := Option.isSome_iff_exists.1 hg
  have := (rGetT hok hm hp ha).1
  rw [encV_fx, encV_fx] at this
  rw [ha]; exact this
theorem getFX {v : Val} (hok : okV v) (hm : mayV v = true) {ps : List (List UInt8)} (hp : ps.length ≤ 140737488355328) (hg : (getV ps v).isSome = false) :
    Runs lp 13 [fx v, .p (.sl (rowsN ps))] [] (.tup [.agg [.p (.int .i64 0), .p (.int .i64 0), .p (.str []), .tight [], .tight []], .p (.bool false)], []) := by
  have := rGetF hok hm hp (by simpa using hg)
  rw [encV_fx] at this; exact this
theorem okZ {B : Nat} : okW B zeroV := okW_mk ⟨by omega, by omega, by simp, by simp, by simp, by simp, by simp⟩
theorem okW_setT {B : Nat} {e : Int} {v x : Val} {ps : List (List UInt8)} (hv : okW B v) (hx : okW B x) (hpl : ∀ p ∈ ps, p.length ≤ 140737488351232) : okW (B + 1) (setT e ps v x).1 := by
  unfold setT
  split
  · exact okZ
  · split
    · split
      · exact okW_set hx ps v hv hpl
      · exact okZ
    · exact okZ
theorem okW_dropT {B : Nat} {e : Int} {v : Val} {ps : List (List UInt8)} (hv : okW B v) : okW B (dropT e ps v).1 := by
  unfold dropT
  split
  · exact okW_at (f := withoutV) (fun v i h => okW_without h) ps v hv
  · exact okZ
theorem okW_cutT {B : Nat} {e c : Int} {v : Val} {ps : List (List UInt8)} (hv : okW B v) : okW B (cutT e ps v c).1 := by
  unfold cutT
  split
  · split
    · exact okZ
    · exact okW_at (f := cutV c) (fun v i h => okW_cut h) ps v hv
  · exact okZ
theorem okV_got {v : Val} (hv : okV v) {ps : List (List UInt8)} (hp : ps.length ≤ 140737488355328) : okV ((gotV v ps).getD zeroV) := (tGet hv hp).2
theorem okV_getD {B : Nat} (hB : B ≤ 1000000000) {v : Val} (hv : okW B v) {ps : List (List UInt8)} : okV ((getV ps v).getD zeroV) := by
  cases h : getV ps v with
  | none => exact okW_okV (B := 0) (by omega) _ okZ
  | some a => exact okW_okV (by omega) _ (okW_get ps v a hv h)
theorem largeL {v : Val} (hok : okV v) {ps : List (List UInt8)} : Runs lp 8 [encV v, .p (.sl (rowsN ps))] [] (.p (.bool (largeV v || decide (((List.length (rowsN ps) : Nat) : Int) > 50))), []) := by
  have hl := rLarge v hok
  obtain ⟨k, n, s, is, ns⟩ := v
  refine ifE (large0 hl) ?_
  cases largeV (.mk k n s is ns) <;> rfl
theorem doc7 {v : Val} (h : docV v = true) : kV v = 7 := by
  obtain ⟨k, n, s, is, ns⟩ := v
  simp only [docV, kindV, Bool.and_eq_true, beq_iff_eq] at h
  exact h.1
theorem docI {v : Val} (h1 : kV v = 7) (h2 : mayV v = true) : docV v = true := by
  obtain ⟨k, n, s, is, ns⟩ := v
  simp only [docV, kindV, h2, Bool.and_true, beq_iff_eq]
  exact h1
theorem chk0 {v : Val} {ps : List (List UInt8)} (h : docV v = true) (hp : pathB ps = true) : chkV v ps (pathB ps) = 0 := by unfold chkV; rw [if_pos h, if_pos hp]
theorem got0 {v : Val} {ps : List (List UInt8)} (h : docV v = true) (hp : pathB ps = true) : gotV v ps = getV ps v := by unfold gotV; rw [chk0 h hp]; rfl
theorem lawKeepsR {v x : Val} (hok : okV v) (hox : okV x) {ps qs : List (List UInt8)} (hp : ps.length ≤ 140737488355328) (sp : ∀ q ∈ ps, q.length ≤ 140737488351232) (hq : qs.length ≤ 140737488355328) (sq : ∀ q ∈ qs, q.length ≤ 140737488351232) {cn : Int} :
    Runs lp 5 [encV v, .p (.sl (rowsN ps)), .p (.sl (rowsN qs)), encV x, .p (.int .i64 cn)] [] (.p (.bool true), []) := by
  have hlg := largeL hok (ps := ps)
  have sp' : ∀ q ∈ ps, q.length ≤ 140737488355328 := fun q hq => by have := sp q hq; omega
  have sq' : ∀ q ∈ qs, q.length ≤ 140737488355328 := fun q hq => by have := sq q hq; omega
  have hwr := wrongL hok hp sp'
  have hwq := wrongL hok hq sq'
  have hW : (largeV v || decide (((List.length (rowsN ps) : Nat) : Int) > 50)) = false → okW 3000 v := fun h => okW_of hok (by cases hl : largeV v <;> simp_all)
  have hXW : largeV x = false → okW 3000 x := okW_of hox
  have hmx := rMay x hox
  have hlx := rLarge x hox
  generalize (largeV v || decide (((List.length (rowsN ps) : Nat) : Int) > 50)) = lg at *
  obtain ⟨k, n, s, is, ns⟩ := v
  obtain ⟨kx, nx, sx, isx, nsx⟩ := x
  have oS : lg = false → largeV (Val.mk kx nx sx isx nsx) = false → okW 3001 (setT (chkV (Val.mk k n s is ns) ps (pathB ps)) ps (Val.mk k n s is ns) (Val.mk kx nx sx isx nsx)).1 := fun a b => okW_setT (hW a) (hXW b) sp
  have oD : lg = false → okW 3000 (dropT (chkV (Val.mk k n s is ns) ps (pathB ps)) ps (Val.mk k n s is ns)).1 := fun a => okW_dropT (hW a)
  have oC : lg = false → okW 3000 (cutT (chkV (Val.mk k n s is ns) ps (pathB ps)) ps (Val.mk k n s is ns) cn).1 := fun a => okW_cutT (hW a)
  have up : ∀ {B : Nat} {v : Val}, B ≤ 1000000 → okW B v → okV v := fun hB h => okW_okV (by omega) _ h
  have oZ : okV (Val.mk 0 0 [] [] []) := up (B := 0) (by omega) okZ
  refine ifE (lawTreeKeeps (hlg) (fun a => lives) (fun a => hlx) (fun a b => lives) (fun a b => hwr) (fun a b h0 => hwq) (fun a b h0 _ => hmx) (fun a b h0 _ _ hc => lives) (fun a b h0 _ _ hc => rpBeg hp) (fun a b h0 _ _ hc _ => lives) (fun a b h0 _ _ hc _ => rpBeg hq) (fun a b h0 _ _ hc _ _ => lives) (fun a b h0 _ _ hc _ _ hg => getTX hok (doc_may (chk_doc h0).1) hq hg) (fun a b h0 _ _ hc _ _ hg => setX (B := 3000) (by omega) (hW a) (hXW b) hp sp) (fun a b h0 _ _ hc _ _ hg => dropX (B := 3000) (by omega) (hW a) hp) (fun a b h0 _ _ hc _ _ hg => cutX (B := 3000) (by omega) (hW a) hp) (fun a b h0 _ _ hc _ _ hg => lives) (fun a b h0 _ _ hc _ _ hg _ _ => getX (up (by omega) (oD a)) hq) (fun a b h0 _ _ hc _ _ hg _ _ => getX (up (by omega) (oC a)) hq) (fun a b h0 _ _ hc _ _ hg _ _ _ _ => sameX _ _ (okV_got (up (by omega) (oD a)) hq) (okV_getD (B := 3000) (by omega) (hW a))) (fun a b h0 _ _ hc _ _ hg _ _ _ _ _ => sameX _ _ (okV_got (up (by omega) (oC a)) hq) (okV_getD (B := 3000) (by omega) (hW a))) (fun a b h0 _ _ hc _ _ hg _ _ _ _ _ _ _ => getX (up (by omega) (oS a b)) hq) (fun a b h0 _ _ hc _ _ hg _ _ _ _ _ _ _ _ => sameX _ _ (okV_got (up (by omega) (oS a b)) hq) (okV_getD (B := 3000) (by omega) (hW a))) (fun a b h0 _ _ hc _ _ hg => getFX hok (doc_may (chk_doc h0).1) hq hg) (fun a b h0 _ _ hc _ _ hg => setX (B := 3000) (by omega) (hW a) (hXW b) hp sp) (fun a b h0 _ _ hc _ _ hg => dropX (B := 3000) (by omega) (hW a) hp) (fun a b h0 _ _ hc _ _ hg => cutX (B := 3000) (by omega) (hW a) hp) (fun a b h0 _ _ hc _ _ hg => lives) (fun a b h0 _ _ hc _ _ hg _ _ => getX (up (by omega) (oD a)) hq) (fun a b h0 _ _ hc _ _ hg _ _ => getX (up (by omega) (oC a)) hq) (fun a b h0 _ _ hc _ _ hg _ _ _ _ => sameX _ _ (okV_got (up (by omega) (oD a)) hq) oZ) (fun a b h0 _ _ hc _ _ hg _ _ _ _ _ => sameX _ _ (okV_got (up (by omega) (oC a)) hq) oZ) (fun a b h0 _ _ hc _ _ hg _ _ _ _ _ _ _ => getX (up (by omega) (oS a b)) hq) (fun a b h0 _ _ hc _ _ hg _ _ _ _ _ _ _ _ => sameX _ _ (okV_got (up (by omega) (oS a b)) hq) oZ) (fun a b h0 _ _ => lives) (fun a b h0 _ => lives) (fun a b _ => lives)) ?_
  clear hlg hwr hwq hW hXW hmx hlx oS oD oC up oZ
  by_cases hl : lg = true
  · simp [hl]
  by_cases hX : largeV (Val.mk kx nx sx isx nsx) = true
  · simp [hl, hX]
  by_cases h0 : ((chkV (Val.mk k n s is ns) ps (pathB ps)) == 0) = true
  rotate_left
  · simp [hl, hX, (by simpa using h0 : ((chkV (Val.mk k n s is ns) ps (pathB ps)) == 0) = false)]
  by_cases h1 : ((chkV (Val.mk k n s is ns) qs (pathB qs)) == 0) = true
  rotate_left
  · simp [hl, hX, h0, (by simpa using h1 : ((chkV (Val.mk k n s is ns) qs (pathB qs)) == 0) = false)]
  by_cases hm : mayV (Val.mk kx nx sx isx nsx) = true
  rotate_left
  · simp [hl, hX, h0, h1, (by simpa using hm : mayV (Val.mk kx nx sx isx nsx) = false)]
  by_cases hc : cn < 0
  · simp [hl, hX, h0, h1, hm, hc]
  by_cases hb1 : List.isPrefixOf ps qs = true
  · simp [hl, hX, h0, h1, hm, hc, hb1]
  by_cases hb2 : List.isPrefixOf qs ps = true
  · simp [hl, hX, h0, h1, hm, hc, hb1, hb2]
  have hb1' : List.isPrefixOf ps qs = false := Bool.eq_false_iff.2 hb1
  have hb2' : List.isPrefixOf qs ps = false := Bool.eq_false_iff.2 hb2
  obtain ⟨hd, hpb⟩ := chk_doc h0
  have hqb := (chk_doc h1).2
  have D : dropT (chkV (Val.mk k n s is ns) ps (pathB ps)) ps (Val.mk k n s is ns) = (atV withoutV ps (Val.mk k n s is ns), 0) := by unfold dropT; rw [if_pos h0]
  have dD : docV (atV withoutV ps (Val.mk k n s is ns)) = true := docI (by rw [at_kind without_chg (doc_may hd)]; exact doc7 hd) (at_may without_chg ps _ (doc_may hd))
  have gD : gotV (atV withoutV ps (Val.mk k n s is ns)) qs = getV qs (Val.mk k n s is ns) := by rw [got0 dD hqb]; exact at_keeps without_chg ps qs _ (doc_may hd) hb1' hb2'
  have K : cutT (chkV (Val.mk k n s is ns) ps (pathB ps)) ps (Val.mk k n s is ns) cn = (atV (cutV cn) ps (Val.mk k n s is ns), 0) := by unfold cutT; rw [if_pos h0, decide_eq_false hc, if_neg (by decide)]
  have ch := cut_chg (c := cn) (by omega)
  have dK : docV (atV (cutV cn) ps (Val.mk k n s is ns)) = true := docI (by rw [at_kind ch (doc_may hd)]; exact doc7 hd) (at_may ch ps _ (doc_may hd))
  have gK : gotV (atV (cutV cn) ps (Val.mk k n s is ns)) qs = getV qs (Val.mk k n s is ns) := by rw [got0 dK hqb]; exact at_keeps ch ps qs _ (doc_may hd) hb1' hb2'
  have S : setT (chkV (Val.mk k n s is ns) ps (pathB ps)) ps (Val.mk k n s is ns) (Val.mk kx nx sx isx nsx) = if (setV ps (Val.mk k n s is ns) (Val.mk kx nx sx isx nsx)).2 = true then ((setV ps (Val.mk k n s is ns) (Val.mk kx nx sx isx nsx)).1, 0) else (zeroV, 40) := by unfold setT; rw [if_neg (by simp [hm]), if_pos h0]
  by_cases hs : (setV ps (Val.mk k n s is ns) (Val.mk kx nx sx isx nsx)).2 = true
  · rw [if_pos hs] at S
    have dS : docV (setV ps (Val.mk k n s is ns) (Val.mk kx nx sx isx nsx)).1 = true := docI (by cases ps with | nil => exact absurd rfl (path_ne hpb) | cons a b => rw [kind_set]; exact doc7 hd) (may_set hm ps _ (doc_may hd) (path_all hpb))
    have gS : gotV (setV ps (Val.mk k n s is ns) (Val.mk kx nx sx isx nsx)).1 qs = getV qs (Val.mk k n s is ns) := by rw [got0 dS hqb]; exact set_keeps ps qs _ (doc_may hd) hs hb1' hb2'
    cases hg : getV qs (Val.mk k n s is ns) with
    | none => simp [hl, hX, h0, h1, hm, hc, hb1', hb2', D, gD, K, gK, S, gS, hg, sameV_refl, zeroV]
    | some a => simp [hl, hX, h0, h1, hm, hc, hb1', hb2', D, gD, K, gK, S, gS, hg, sameV_refl]
  · rw [if_neg hs] at S
    cases hg : getV qs (Val.mk k n s is ns) with
    | none => simp [hl, hX, h0, h1, hm, hc, hb1', hb2', D, gD, K, gK, S, hg, sameV_refl, zeroV]
    | some a => simp [hl, hX, h0, h1, hm, hc, hb1', hb2', D, gD, K, gK, S, hg, sameV_refl]
end Go.Proofs.Ytpkmddkodchanaa

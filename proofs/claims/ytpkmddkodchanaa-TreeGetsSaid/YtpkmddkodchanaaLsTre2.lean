import Derived.Test.YtpkmddkodchanaaLsTre2W
import Derived.Test.YtpkmddkodchanaaLsClo
set_option linter.unusedVariables false
set_option linter.unusedSimpArgs false
set_option maxRecDepth 100000
namespace Go.Proofs.Ytpkmddkodchanaa
open Go Go.LS
theorem tChk {v : Val} {ps : List (List UInt8)} (hok : okV v) (hp : ps.length ≤ 140737488355328) : Runs lp 27 [encV v, .p (.sl (rowsN ps))] [] (.p (.int .i64 (chkV v ps (pathB ps))), []) := by
  obtain ⟨k, n, s, is, ns⟩ := v
  refine ifE (tChk0 (by intros; exact vMay _ hok) (by intros; exact pMay hp)) ?_
  simp only [chkV, docV, kindV]
  by_cases h7 : (k == 7) = true <;> by_cases hm : mayV (.mk k n s is ns) = true <;> by_cases hq : pathB ps = true <;> simp [h7, hm, hq]
theorem rDoc {v : Val} (hok : okV v) : Runs lp 14 [encV v] [] (.p (.bool (docV v)), []) := by
  obtain ⟨k, n, s, is, ns⟩ := v
  refine ifE (rDoc0 (by intros; exact rMay _ hok)) ?_
  simp only [docV, kindV]
  by_cases h7 : (k == 7) = true <;> simp [h7]
theorem wrongL {v : Val} {ps : List (List UInt8)} (hok : okV v) (hp : ps.length ≤ 140737488355328) (sp : ∀ x ∈ ps, x.length ≤ 140737488355328) : Runs lp 12 [encV v, .p (.sl (rowsN ps))] [] (.p (.int .i64 (chkV v ps (pathB ps))), []) := by
  have d := rDoc hok
  obtain ⟨k, n, s, is, ns⟩ := v
  refine ifE (wrong0 (by intros; exact d) (by intros; exact rpMay hp sp)) ?_
  simp only [chkV]
  by_cases h7 : docV (.mk k n s is ns) = true <;> by_cases hq : pathB ps = true <;> simp [h7, hq]
theorem chk_doc {v : Val} {ps : List (List UInt8)} {p : Bool} (h : (chkV v ps p == 0) = true) : docV v = true ∧ p = true := by
  unfold chkV at h
  cases hd : docV v <;> cases p <;> rw [hd] at h <;> simp_all
theorem doc_may {v : Val} (h : docV v = true) : mayV v = true := by simp only [docV, Bool.and_eq_true] at h; exact h.2
def gotV (v : Val) (ps : List (List UInt8)) : Option Val := if (chkV v ps (pathB ps) == 0) = true then getV ps v else none
theorem tGet {v : Val} {ps : List (List UInt8)} (hok : okV v) (hp : ps.length ≤ 140737488355328) :
    Runs lp 10 [encV v, .p (.sl (rowsN ps))] [] (.tup [encV ((gotV v ps).getD zeroV), .p (.bool (gotV v ps).isSome)], []) ∧ okV ((gotV v ps).getD zeroV) := by
  have hz : okV zeroV := by rw [zeroV, okV, okL_all]; simp
  have hc := tChk hok hp
  unfold gotV
  cases h0 : (chkV v ps (pathB ps) == 0) with
  | false =>
    refine ⟨?_, hz⟩
    obtain ⟨k, n, s, is, ns⟩ := v
    have no : ∀ {x : Prop}, (chkV (.mk k n s is ns) ps (pathB ps) == 0) = true → x := fun h => by rw [h0] at h; cases h
    refine ifE (tGt0 (kx := 0) (nx := 0) (sx := []) (isx := []) (nsx := []) (ky := 0) (ny := 0) (sy := []) (isy := []) (nsy := []) (g := true) hc (fun h _ => no h) (fun h _ => no h) (fun h _ => no h)) ?_
    rw [h0]; rfl
  | true =>
    have hm := doc_may (chk_doc h0).1
    obtain ⟨l1, l2⟩ := tGetL hp ps.length 0 v (by omega) hok hm
    rw [List.drop_zero] at l1 l2
    cases hg : getV ps v with
    | some x =>
      obtain ⟨a, ox, _⟩ := l1 x hg
      have hcl := vClone x ox
      refine ⟨?_, ox⟩
      obtain ⟨k, n, s, is, ns⟩ := v
      obtain ⟨kx, nx, sx, isx, nsx⟩ := x
      refine ifE (tGt0 (kx := kx) (nx := nx) (sx := sx) (isx := isx) (nsx := nsx) (ky := 0) (ny := 0) (sy := []) (isy := []) (nsy := []) (g := true) hc (fun _ _ => a) (fun _ _ => hcl) (fun _ h => by cases h)) ?_
      rw [h0]; rfl
    | none =>
      obtain ⟨x, a⟩ := l2 hg
      refine ⟨?_, hz⟩
      obtain ⟨k, n, s, is, ns⟩ := v
      obtain ⟨kx, nx, sx, isx, nsx⟩ := x
      refine ifE (tGt0 (kx := 0) (nx := 0) (sx := []) (isx := []) (nsx := []) (ky := kx) (ny := nx) (sy := sx) (isy := isx) (nsy := nsx) (g := false) hc (fun _ h => by cases h) (fun _ h => by cases h) (fun _ _ => a)) ?_
      rw [h0]; rfl
theorem rGetT {v x : Val} {ps : List (List UInt8)} (hok : okV v) (hm : mayV v = true) (hp : ps.length ≤ 140737488355328) (hg : getV ps v = some x) :
    Runs lp 13 [encV v, .p (.sl (rowsN ps))] [] (.tup [encV x, .p (.bool true)], []) ∧ okV x := by
  obtain ⟨l1, l2⟩ := rGetL hp ps.length 0 v (by omega) hok hm
  rw [List.drop_zero] at l1 l2
  obtain ⟨a, ox, _⟩ := l1 x hg
  refine ⟨?_, ox⟩
  obtain ⟨k, n, s, is, ns⟩ := v
  obtain ⟨kx, nx, sx, isx, nsx⟩ := x
  exact rGt0 (kx := kx) (nx := nx) (sx := sx) (isx := isx) (nsx := nsx) (ky := 0) (ny := 0) (sy := []) (isy := []) (nsy := []) (g := true) (fun _ => a) (fun h => by cases h)
theorem rGetF {v : Val} {ps : List (List UInt8)} (hok : okV v) (hm : mayV v = true) (hp : ps.length ≤ 140737488355328) (hg : getV ps v = none) :
    Runs lp 13 [encV v, .p (.sl (rowsN ps))] [] (.tup [.agg [.p (.int .i64 0), .p (.int .i64 0), .p (.str []), .tight [], .tight []], .p (.bool false)], []) := by
  obtain ⟨l1, l2⟩ := rGetL hp ps.length 0 v (by omega) hok hm
  rw [List.drop_zero] at l1 l2
  obtain ⟨x, a⟩ := l2 hg
  obtain ⟨k, n, s, is, ns⟩ := v
  obtain ⟨kx, nx, sx, isx, nsx⟩ := x
  exact rGt0 (kx := 0) (nx := 0) (sx := []) (isx := []) (nsx := []) (ky := kx) (ny := nx) (sy := sx) (isy := isx) (nsy := nsx) (g := false) (fun h => by cases h) (fun _ => a)
theorem lawGt {v : Val} {ps : List (List UInt8)} (hok : okV v) (hp : ps.length ≤ 140737488355328) (sp : ∀ x ∈ ps, x.length ≤ 140737488355328) : Runs lp 3 [encV v, .p (.sl (rowsN ps))] [] (.p (.bool true), []) := by
  have hz : okV zeroV := by rw [zeroV, okV, okL_all]; simp
  obtain ⟨h1, oX⟩ := tGet hok hp
  obtain ⟨h2, oZ⟩ := tGet (ps := [[95, 105, 100]]) hok (by simp)
  have hwr := wrongL hok hp sp
  have hdoc := rDoc hok
  obtain ⟨lg, hlg⟩ : ∃ lg : Bool, Runs lp 8 [encV v, .p (.sl (rowsN ps))] [] (.p (.bool lg), []) := by
    have hl := rLarge v hok
    obtain ⟨k, n, s, is, ns⟩ := v
    refine ⟨largeV (.mk k n s is ns) || decide (((List.length (rowsN ps) : Nat) : Int) > 50), ifE (large0 hl) ?_⟩
    cases largeV (.mk k n s is ns) <;> rfl
  have r1 : docV v = true → ∀ x, getV ps v = some x → _ := fun hd x hg => rGetT hok (doc_may hd) hp hg
  have r0 : docV v = true → getV ps v = none → _ := fun hd hg => rGetF hok (doc_may hd) hp hg
  have i1 : docV v = true → ∀ x, getV [[95, 105, 100]] v = some x → _ := fun hd x hg => rGetT hok (doc_may hd) (ps := [[95, 105, 100]]) (by simp) hg
  have i0 : docV v = true → getV [[95, 105, 100]] v = none → _ := fun hd hg => rGetF hok (doc_may hd) (ps := [[95, 105, 100]]) (by simp) hg
  have idp : pathB [[95, 105, 100]] = true := by decide
  have eG : docV v = true → gotV v [[95, 105, 100]] = getV [[95, 105, 100]] v := fun hd => by unfold gotV chkV; rw [hd, idp]; rfl
  have eG0 : docV v = false → gotV v [[95, 105, 100]] = none := fun hd => by unfold gotV chkV; rw [hd]; rfl
  have eP : (chkV v ps (pathB ps) == 0) = true → gotV v ps = getV ps v := fun h => by unfold gotV; rw [if_pos h]
  have eP0 : (chkV v ps (pathB ps) == 0) = false → gotV v ps = none := fun h => by unfold gotV; rw [if_neg (by rw [h]; decide)]
  -- what the document tells, where it is asked
  obtain ⟨Y, b1, oY, y1, y0, y2⟩ : ∃ (Y : Val) (b1 : Bool), okV Y ∧ (docV v = true → b1 = true → Runs lp 13 [encV v, .p (.sl (rowsN ps))] [] (.tup [encV Y, .p (.bool true)], [])) ∧
      (docV v = true → b1 = false → Runs lp 13 [encV v, .p (.sl (rowsN ps))] [] (.tup [.agg [.p (.int .i64 0), .p (.int .i64 0), .p (.str []), .tight [], .tight []], .p (.bool false)], [])) ∧
      (docV v = true → (getV ps v).getD zeroV = (if b1 = true then Y else zeroV) ∧ (getV ps v).isSome = b1) := by
    by_cases hd : docV v = true
    · cases hg : getV ps v with
      | some x => exact ⟨x, true, (r1 hd x hg).2, fun _ _ => (r1 hd x hg).1, (fun _ h => by cases h), fun _ => ⟨rfl, rfl⟩⟩
      | none => exact ⟨zeroV, false, hz, (fun _ h => by cases h), fun _ _ => r0 hd hg, fun _ => ⟨rfl, rfl⟩⟩
    · exact ⟨zeroV, false, hz, fun h => absurd h hd, fun h => absurd h hd, fun h => absurd h hd⟩
  obtain ⟨W, bw, oW, w1, w0, w2⟩ : ∃ (Y : Val) (b1 : Bool), okV Y ∧ (docV v = true → b1 = true → Runs lp 13 [encV v, .p (.sl (rowsN [[95, 105, 100]]))] [] (.tup [encV Y, .p (.bool true)], [])) ∧
      (docV v = true → b1 = false → Runs lp 13 [encV v, .p (.sl (rowsN [[95, 105, 100]]))] [] (.tup [.agg [.p (.int .i64 0), .p (.int .i64 0), .p (.str []), .tight [], .tight []], .p (.bool false)], [])) ∧
      (docV v = true → (getV [[95, 105, 100]] v).getD zeroV = (if b1 = true then Y else zeroV) ∧ (getV [[95, 105, 100]] v).isSome = b1) := by
    by_cases hd : docV v = true
    · cases hg : getV [[95, 105, 100]] v with
      | some x => exact ⟨x, true, (i1 hd x hg).2, fun _ _ => (i1 hd x hg).1, (fun _ h => by cases h), fun _ => ⟨rfl, rfl⟩⟩
      | none => exact ⟨zeroV, false, hz, (fun _ h => by cases h), fun _ _ => i0 hd hg, fun _ => ⟨rfl, rfl⟩⟩
    · exact ⟨zeroV, false, hz, fun h => absurd h hd, fun h => absurd h hd, fun h => absurd h hd⟩
  have fX : (chkV v ps (pathB ps) == 0) = true → (gotV v ps).getD zeroV = (if b1 = true then Y else zeroV) ∧ (gotV v ps).isSome = b1 := fun h => by rw [eP h]; exact y2 (chk_doc h).1
  have fX0 : (chkV v ps (pathB ps) == 0) = false → (gotV v ps).getD zeroV = zeroV ∧ (gotV v ps).isSome = false := fun h => by rw [eP0 h]; exact ⟨rfl, rfl⟩
  have fZ : docV v = true → (gotV v [[95, 105, 100]]).getD zeroV = (if bw = true then W else zeroV) ∧ (gotV v [[95, 105, 100]]).isSome = bw := fun h => by rw [eG h]; exact w2 h
  have fZ0 : docV v = false → (gotV v [[95, 105, 100]]).getD zeroV = zeroV ∧ (gotV v [[95, 105, 100]]).isSome = false := fun h => by rw [eG0 h]; exact ⟨rfl, rfl⟩
  generalize (gotV v ps).getD zeroV = X at *
  generalize (gotV v ps).isSome = bx at *
  generalize (gotV v [[95, 105, 100]]).getD zeroV = Zv at *
  generalize (gotV v [[95, 105, 100]]).isSome = bz at *
  have sXY := rSame X oX Y oY
  have sX0 := rSame X oX zeroV hz
  have sZW := rSame Zv oZ W oW
  have sZ0 := rSame Zv oZ zeroV hz
  clear r1 r0 i1 i0 eG eG0 eP eP0 y2 w2
  obtain ⟨k, n, s, is, ns⟩ := v
  obtain ⟨kx, nx, sx, isx, nsx⟩ := X
  obtain ⟨ky, ny, sy, isy, nsy⟩ := Y
  obtain ⟨kz, nz, sz, isz, nsz⟩ := Zv
  obtain ⟨kw, nw, sw, isw, nsw⟩ := W
  have hid := @tId0 k n s is ns (.mk kz nz sz isz nsz) bz h2
  refine ifE (@lawG k n s is ns ps lg bx bz b1 bw (.mk kx nx sx isx nsx) (.mk ky ny sy isy nsy) (.mk kz nz sz isz nsz) (.mk kw nw sw isw nsw) (hlg) (fun _ => lives) (fun _ => h1) (fun _ => hid) (fun _ => hwr) (fun _ h0 hb => y1 (chk_doc h0).1 hb) (fun _ h0 hb => hdoc) (fun _ h0 hb hd hw => w1 hd hw) (fun _ h0 hb hd hw => lives) (fun _ h0 hb hd hw _ => sXY) (fun _ h0 hb hd hw _ _ _ => sZW) (fun _ h0 hb hd hw => w0 hd hw) (fun _ h0 hb hd hw => lives) (fun _ h0 hb hd hw _ => sXY) (fun _ h0 hb hd hw _ _ _ => sZ0) (fun _ h0 hb hd => lives) (fun _ h0 hb hd _ => sXY) (fun _ h0 hb hd _ _ _ => sZ0) (fun _ h0 hb => y0 (chk_doc h0).1 hb) (fun _ h0 hb => hdoc) (fun _ h0 hb hd hw => w1 hd hw) (fun _ h0 hb hd hw => lives) (fun _ h0 hb hd hw _ => sX0) (fun _ h0 hb hd hw _ _ _ => sZW) (fun _ h0 hb hd hw => w0 hd hw) (fun _ h0 hb hd hw => lives) (fun _ h0 hb hd hw _ => sX0) (fun _ h0 hb hd hw _ _ _ => sZ0) (fun _ h0 hb hd => lives) (fun _ h0 hb hd _ => sX0) (fun _ h0 hb hd _ _ _ => sZ0) (fun _ _ => hdoc) (fun _ _ hd hw => w1 hd hw) (fun _ _ hd hw => lives) (fun _ _ hd hw _ => sX0) (fun _ _ hd hw _ _ _ => sZW) (fun _ _ hd hw => w0 hd hw) (fun _ _ hd hw => lives) (fun _ _ hd hw _ => sX0) (fun _ _ hd hw _ _ _ => sZ0) (fun _ _ hd => lives) (fun _ _ hd _ => sX0) (fun _ _ hd _ _ _ => sZ0)) ?_
  clear sXY sX0 sZW sZ0 hid h1 h2 hwr hdoc hlg y1 y0 w1 w0
  by_cases hl : lg = true
  · simp [hl]
  · by_cases h0 : (chkV (.mk k n s is ns) ps (pathB ps) == 0) = true
    · have hd := (chk_doc h0).1
      obtain ⟨a1, a2⟩ := fX h0
      obtain ⟨c1, c2⟩ := fZ hd
      subst a2 c2
      rw [h0, hd]
      cases bx <;> cases bz <;> simp only [if_true, if_false, Bool.false_eq_true, zeroV] at a1 c1 <;> cases a1 <;> cases c1 <;> simp [hl, kV, nV, sV, iV, mV, sameV_refl]
    · have h0' : (chkV (.mk k n s is ns) ps (pathB ps) == 0) = false := by simpa using h0
      obtain ⟨a1, a2⟩ := fX0 h0'
      subst a2
      by_cases hd : docV (.mk k n s is ns) = true
      · obtain ⟨c1, c2⟩ := fZ hd
        subst c2
        rw [h0', hd]
        cases bz <;> simp only [if_true, if_false, Bool.false_eq_true, zeroV] at a1 c1 <;> cases a1 <;> cases c1 <;> simp [hl, kV, nV, sV, iV, mV, sameV_refl]
      · have hd' : docV (.mk k n s is ns) = false := by simpa using hd
        obtain ⟨c1, c2⟩ := fZ0 hd'
        subst c2
        rw [h0', hd']
        simp only [zeroV] at a1 c1
        cases a1; cases c1
        simp [hl, kV, nV, sV, iV, mV, sameV_refl]
end Go.Proofs.Ytpkmddkodchanaa

import Derived.Test.YtegboccilfofmaaLsLawsW
import Derived.Test.YtegboccilfofmaaLsG6
set_option linter.unusedVariables false
set_option maxRecDepth 100000
set_option linter.unusedSimpArgs false
namespace Go.Proofs.Ytegboccilfofmaa
open Go Go.LS
theorem clash_mem : ∀ (l seen : List Pt) (x y : Pt), x ∈ seen → y ∈ l → meetP y x = true → clashL seen l = true := by
  intro l
  induction l with
  | nil => intro seen x y hx hy; simp at hy
  | cons p r ih =>
    intro seen x y hx hy hm
    rw [clashL]
    rcases List.mem_cons.1 hy with rfl | hy
    · rw [Bool.or_eq_true]; exact .inl (List.any_eq_true.2 ⟨x, hx, hm⟩)
    · rw [Bool.or_eq_true]; exact .inr (ih _ x y (by simp [hx]) hy hm)
theorem prefix_app (a x : Pt) : List.isPrefixOf a (a ++ x) = true := by
  induction a with
  | nil => cases x <;> rfl
  | cons y r ih => simp [List.isPrefixOf, ih]
theorem any2 {o q : OpS} {f : Pt → Bool} (h1 : f o.p = false) (h2 : f q.p = false) (h3 : (o.k == 6) = true → f o.t = false) (h4 : (q.k == 6) = true → f q.t = false) : (placesO [o, q]).any f = false := by
  simp only [placesO]
  by_cases k1 : (o.k == 6) = true
  · by_cases k2 : (q.k == 6) = true
    · rw [if_pos k1, if_pos k2]; simp [h1, h2, h3 k1, h4 k2]
    · rw [if_pos k1, if_neg k2]; simp [h1, h2, h3 k1]
  · by_cases k2 : (q.k == 6) = true
    · rw [if_neg k1, if_pos k2]; simp [h1, h2, h4 k2]
    · rw [if_neg k1, if_neg k2]; simp [h1, h2]
theorem clash2 {o q : OpS} (h : meetP q.p o.p = true) : clashL [] (placesO [o, q]) = true := by
  simp only [placesO]
  have hm : ∀ r, clashL [o.p] (q.p :: r) = true := fun r => clash_mem _ _ o.p q.p (by simp) (by simp) h
  have hm2 : ∀ x r, clashL [o.p] (x :: q.p :: r) = true := fun x r => clash_mem _ _ o.p q.p (by simp) (by simp) h
  by_cases k1 : (o.k == 6) = true
  · by_cases k2 : (q.k == 6) = true
    · rw [if_pos k1, if_pos k2, clashL]; simp [hm2]
    · rw [if_pos k1, if_neg k2, clashL]; simp [hm2]
  · by_cases k2 : (q.k == 6) = true
    · rw [if_neg k1, if_pos k2, clashL]; simp [hm]
    · rw [if_neg k1, if_neg k2, clashL]; simp [hm]
theorem check2 {o q : OpS} (m1 : mayO o = true) (m2 : mayO q = true) (h1 : (o.p.getD 0 [] == [95, 105, 100]) = false) (h2 : (q.p.getD 0 [] == [95, 105, 100]) = false)
    (h3 : (o.k == 6) = true → (o.t.getD 0 [] == [95, 105, 100]) = false) (h4 : (q.k == 6) = true → (q.t.getD 0 [] == [95, 105, 100]) = false) (h : meetP q.p o.p = true) : checkS false (.mk 0 0 [] [] []) [o, q] = 71 := by
  have e1 := any2 (f := fun q => q.getD 0 [] == [95, 105, 100]) h1 h2 h3 h4
  have e2 := clash2 h
  unfold checkS
  rw [e1, e2]
  simp [m1, m2, noneV]
theorem mayO_p {o : OpS} (h : mayO o = true) (p : Pt) (hp : pathB' p = true) : mayO { o with p := p } = true := by
  simp only [mayO, Bool.and_eq_true] at h ⊢
  exact ⟨hp, h.2⟩
theorem getD_app {a x : Pt} (h : 1 ≤ a.length) : (a ++ x).getD 0 [] = a.getD 0 [] := by
  cases a with
  | nil => simp at h
  | cons y r => rfl
theorem apart {a b : OpS} {x : Pt} (ma : mayO a = true) (mb : mayO b = true) (hp : pathB' (a.p ++ x) = true) (hid : (a.p.getD 0 [] == [95, 105, 100]) = false)
    (hta : (a.k == 6) = true → (a.t.getD 0 [] == [95, 105, 100]) = false) (htb : (b.k == 6) = true → (b.t.getD 0 [] == [95, 105, 100]) = false) :
    checkS false (.mk 0 0 [] [] []) [a, { b with p := a.p ++ x }] = 71 ∧ checkS false (.mk 0 0 [] [] []) [{ b with p := a.p ++ x }, a] = 71 := by
  have hl := (mayO_path ma).1.1
  have mb' := mayO_p mb _ hp
  have hid' : ((a.p ++ x).getD 0 [] == [95, 105, 100]) = false := by rw [getD_app hl]; exact hid
  have hx := prefix_app a.p x
  exact ⟨check2 ma mb' hid hid' hta htb (by simp [meetP, hx]), check2 mb' ma hid' hid htb hta (by simp [meetP, hx])⟩
theorem mayO_pt0 {o : OpS} (h : mayO o = true) : pathB' o.p = true := by
  simp only [mayO, Bool.and_eq_true] at h; exact h.1
theorem path_more {a : OpS} {x : Pt} (ma : mayO a = true) (h : a.p.length + x.length ≤ 8) (hx : x.all nameB = true) : pathB' (a.p ++ x) = true := by
  have h1 := (mayO_pt0 ma)
  simp only [pathB', Bool.and_eq_true, decide_eq_true_eq, List.length_append, List.all_append] at h1 ⊢
  exact ⟨⟨by omega, h⟩, h1.2, hx⟩
theorem specP (a b : OpS) (hA : okA a) (hB : okA b) (sx : List UInt8) (hsx : sx.length ≤ 140737488351232) :
    Runs lp 4 [.agg ((rowO a).map .p), .agg ((rowO b).map .p), .p (.str sx)] [] (.p (.bool true), []) := by
  have oA : okO a := ⟨hA.1, hA.2.1, hA.2.2.1, trivial, hA.2.2.2.1, hA.2.2.2.2⟩
  have oB : okO b := ⟨hB.1, hB.2.1, hB.2.2.1, trivial, hB.2.2.2.1, hB.2.2.2.2⟩
  have rA := rOpMay a oA
  have rB := rOpMay b oB
  have rS : Runs lp 14 [.p (.sl (rowsN [sx]))] [] (.p (.bool (pathB' [sx])), []) := rpMay (by simp) (fun x hx => by simp at hx; subst hx; omega)
  have oX : ∀ x : Pt, a.p.length ≤ 7 → x.length ≤ 1 → (∀ y ∈ x, y.length ≤ 140737488351232) → okO { b with p := a.p ++ x } := fun x h7 h1 hx =>
    ⟨fun y hy => by rcases List.mem_append.1 hy with hy | hy; exact hA.1 y hy; exact hx y hy, by simp only [List.length_append]; omega, hB.2.2.1, trivial, hB.2.2.2.1, hB.2.2.2.2⟩
  have ck : ∀ x : Pt, a.p.length ≤ 7 → x.length ≤ 1 → (∀ y ∈ x, y.length ≤ 140737488351232) → (Runs lp 11 [.agg ([.p (.bool false)] ++ (rowV (.mk 0 0 [] [] [])).map .p ++ [.p (.sl (rowsO [a, { b with p := a.p ++ x }]))])] [] (.p (.int .i64 (checkS false (.mk 0 0 [] [] []) [a, { b with p := a.p ++ x }])), [])) ∧
      (Runs lp 11 [.agg ([.p (.bool false)] ++ (rowV (.mk 0 0 [] [] [])).map .p ++ [.p (.sl (rowsO [{ b with p := a.p ++ x }, a]))])] [] (.p (.int .i64 (checkS false (.mk 0 0 [] [] []) [{ b with p := a.p ++ x }, a])), [])) := fun x h7 h1 hx => by
    have oZ := oX x h7 h1 hx
    have okz : okV (.mk 0 0 [] [] []) := by rw [okV, okL_all]; simp
    exact ⟨sCheckT _ okz trivial (by simp) (fun o ho => by simp at ho; rcases ho with rfl | rfl; exact oA; exact oZ), sCheckT _ okz trivial (by simp) (fun o ho => by simp at ho; rcases ho with rfl | rfl; exact oZ; exact oA)⟩
  have ap : ∀ x : Pt, mayO a = true → mayO b = true → pathB' (a.p ++ x) = true → _ → _ → _ → _ := fun x ma mb hp hid hta htb => apart (a := a) (b := b) (x := x) ma mb hp hid hta htb
  have pA := @mayO_path a
  have pB := @mayO_path b
  have pm := fun (x : Pt) (ma : mayO a = true) (h : a.p.length + x.length ≤ 8) (hx : x.all nameB = true) => path_more ma h hx
  have e0 : a.p ++ [] = a.p := List.append_nil _
  have ck0 := ck []
  have ck1 := ck [sx]
  have ap0 := ap []
  have ap1 := ap [sx]
  have pm0 := pm []
  have pm1 := pm [sx]
  rw [e0] at ck0 ap0 pm0
  obtain ⟨oka, psa, ⟨vka, vna, vsa, via, vnsa⟩, tsa⟩ := a
  obtain ⟨okb, psb, ⟨vkb, vnb, vsb, vib, vnsb⟩, tsb⟩ := b
  simp only at ck0 ck1 ap0 ap1 pm0 pm1 pA pB
  have lenA := fun ma => (pA ma).1.1
  have lenTA := fun ma h6 => ((pA ma).2 h6).1
  have lenTB := fun mb h6 => ((pB mb).2 h6).1
  have g7 : ∀ {c : Bool}, decide (((List.length (rowsN psa) : Nat) : Int) > 7) = c → c = false → psa.length ≤ 7 := fun h hc => by
    subst hc; have := of_decide_eq_false h; rw [rowsN_len] at this; omega
  have neA : ∀ ma, decide (((List.length (rowsN psa) : Nat) : Int) > 7) = false → psa ≠ [] ∧ (List.length (α := List UInt8) psa) * 16 ≤ 140737488355328 := fun ma h7 => by
    have h1 := lenA ma
    have h2 := g7 h7 rfl
    exact ⟨fun h => by rw [h] at h1; simp at h1, by omega⟩
  have bdA : decide (((List.length (rowsN psa) : Nat) : Int) > 7) = false → (List.length (α := List UInt8) psa + 1) * 16 ≤ 140737488355328 := fun h7 => by have := g7 h7 rfl; omega
  have sxl : ∀ y ∈ [sx], y.length ≤ 140737488351232 := fun y hy => by simp at hy; subst hy; exact hsx
  have ck0ab := fun (_ : mayO (OpS.mk oka psa (Val.mk vka vna vsa via vnsa) tsa) = true) (_ : mayO (OpS.mk okb psb (Val.mk vkb vnb vsb vib vnsb) tsb) = true) (h7 : decide (((List.length (rowsN psa) : Nat) : Int) > 7) = false) => (ck0 (g7 h7 rfl) (by simp) (by simp)).1
  have ck0ba := fun (_ : mayO (OpS.mk oka psa (Val.mk vka vna vsa via vnsa) tsa) = true) (_ : mayO (OpS.mk okb psb (Val.mk vkb vnb vsb vib vnsb) tsb) = true) (h7 : decide (((List.length (rowsN psa) : Nat) : Int) > 7) = false) => (ck0 (g7 h7 rfl) (by simp) (by simp)).2
  have ck1ab := fun (_ : mayO (OpS.mk oka psa (Val.mk vka vna vsa via vnsa) tsa) = true) (_ : mayO (OpS.mk okb psb (Val.mk vkb vnb vsb vib vnsb) tsb) = true) (h7 : decide (((List.length (rowsN psa) : Nat) : Int) > 7) = false) (_ : pathB' [sx] = true) => (ck1 (g7 h7 rfl) (by simp) sxl).1
  have ck1ba := fun (_ : mayO (OpS.mk oka psa (Val.mk vka vna vsa via vnsa) tsa) = true) (_ : mayO (OpS.mk okb psb (Val.mk vkb vnb vsb vib vnsb) tsb) = true) (h7 : decide (((List.length (rowsN psa) : Nat) : Int) > 7) = false) (_ : pathB' [sx] = true) => (ck1 (g7 h7 rfl) (by simp) sxl).2
  refine ifE (lawP (rA) (fun ma => rB) (fun ma mb => lenA ma) (fun ma mb _ => lives) (fun ma mb _ h7 => lives) (fun ma mb _ h7 => neA ma h7) (fun ma mb _ h7 => rS) (fun ma mb _ h7 hs => bdA h7) (fun ma mb _ h7 hs h6b => lenTB mb h6b) (fun ma mb _ h7 hs h6b _ => lives) (fun ma mb _ h7 hs h6b _ h6a => lenTA ma h6a) (fun ma mb _ h7 hs h6b _ h6a _ => lives) (fun ma mb _ h7 hs h6b _ h6a _ => lives) (fun ma mb _ h7 hs h6b _ h6a _ => ck1ab ma mb h7 hs) (fun ma mb _ h7 hs h6b _ h6a _ _ => ck1ba ma mb h7 hs) (fun ma mb _ h7 hs h6b _ _ => lives) (fun ma mb _ h7 hs h6b _ _ => ck1ab ma mb h7 hs) (fun ma mb _ h7 hs h6b _ _ _ => ck1ba ma mb h7 hs) (fun ma mb _ h7 hs _ h6a => lenTA ma h6a) (fun ma mb _ h7 hs _ h6a _ => lives) (fun ma mb _ h7 hs _ h6a _ => lives) (fun ma mb _ h7 hs _ h6a _ => ck1ab ma mb h7 hs) (fun ma mb _ h7 hs _ h6a _ _ => ck1ba ma mb h7 hs) (fun ma mb _ h7 hs _ _ => lives) (fun ma mb _ h7 hs _ _ => ck1ab ma mb h7 hs) (fun ma mb _ h7 hs _ _ _ => ck1ba ma mb h7 hs) (fun ma mb _ h7 hs h6b => lenTB mb h6b) (fun ma mb _ h7 hs h6b _ => lives) (fun ma mb _ h7 hs h6b _ h6a => lenTA ma h6a) (fun ma mb _ h7 hs h6b _ h6a _ => lives) (fun ma mb _ h7 hs h6b _ h6a _ => lives) (fun ma mb _ h7 hs h6b _ h6a _ => ck0ab ma mb h7) (fun ma mb _ h7 hs h6b _ h6a _ _ => ck0ba ma mb h7) (fun ma mb _ h7 hs h6b _ _ => lives) (fun ma mb _ h7 hs h6b _ _ => ck0ab ma mb h7) (fun ma mb _ h7 hs h6b _ _ _ => ck0ba ma mb h7) (fun ma mb _ h7 hs _ h6a => lenTA ma h6a) (fun ma mb _ h7 hs _ h6a _ => lives) (fun ma mb _ h7 hs _ h6a _ => lives) (fun ma mb _ h7 hs _ h6a _ => ck0ab ma mb h7) (fun ma mb _ h7 hs _ h6a _ _ => ck0ba ma mb h7) (fun ma mb _ h7 hs _ _ => lives) (fun ma mb _ h7 hs _ _ => ck0ab ma mb h7) (fun ma mb _ h7 hs _ _ _ => ck0ba ma mb h7) (fun ma mb => lives) (fun ma => lives)) ?_
  cases ma : mayO (OpS.mk oka psa (Val.mk vka vna vsa via vnsa) tsa) with
  | false => rfl
  | true =>
    cases mb : mayO (OpS.mk okb psb (Val.mk vkb vnb vsb vib vnsb) tsb) with
    | false => rfl
    | true =>
      cases hid : (List.getD (α := List UInt8) psa 0 [] == [95, 105, 100]) with
      | true => rfl
      | false =>
        cases h7 : decide (((List.length (rowsN psa) : Nat) : Int) > 7) with
        | true => rfl
        | false =>
          have l7 := g7 h7 rfl
          cases hkb : (okb == 6) <;> cases htb : (List.getD (α := List UInt8) tsb 0 [] == [95, 105, 100]) <;> cases hka : (oka == 6) <;> cases hta : (List.getD (α := List UInt8) tsa 0 [] == [95, 105, 100]) <;> cases hs : pathB' [sx]
          all_goals first
            | rfl
            | (have e := ap1 ma mb (pm1 ma (by simp; omega) (by simp only [pathB', Bool.and_eq_true] at hs; exact hs.2)) hid (fun h => by first | exact hta | exact absurd (show (oka == 6) = true from h) (by rw [hka]; decide)) (fun h => by first | exact htb | exact absurd (show (okb == 6) = true from h) (by rw [hkb]; decide)); simp only [if_true, if_false, Bool.false_eq_true]; rw [e.1, e.2]; rfl)
            | (have e := ap0 ma mb (pm0 ma (by simp; omega) rfl) hid (fun h => by first | exact hta | exact absurd (show (oka == 6) = true from h) (by rw [hka]; decide)) (fun h => by first | exact htb | exact absurd (show (okb == 6) = true from h) (by rw [hkb]; decide)); simp only [if_true, if_false, Bool.false_eq_true]; rw [e.1, e.2]; rfl)
end Go.Proofs.Ytegboccilfofmaa

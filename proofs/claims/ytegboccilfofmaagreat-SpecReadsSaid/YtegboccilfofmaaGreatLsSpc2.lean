import Derived.Test.YtegboccilfofmaaGreatLsSpcW2
import Derived.Test.YtegboccilfofmaaGreatLsCod6
set_option linter.unusedVariables false
set_option maxRecDepth 100000
set_option linter.unusedSimpArgs false
namespace Go.Proofs.YtegboccilfofmaaGreat
open Go Go.LS
theorem Np {l : List Pt} {i : Nat} {x : Pt} (h : l[i]? = some x) : l.getD i [] = x := by rw [List.getD, h]; rfl
theorem Ec {α : Type} {l : List α} {i : Nat} {x : α} (h : l[i]? = some x) : i < l.length := (List.getElem?_eq_some_iff.1 h).1
theorem sWr (o : OpS) (h : okO o) : Runs lp 49 [.agg ((Ll o).map .p)] [] (.p (.bool (!(B0 o))), []) := by
 have hm := sMay o h
 obtain ⟨ok, ps, ⟨vk, vn, vs, vi, vns⟩, ts⟩ := o
 exact sWr0 hm
theorem oCon {ops : List OpS} (hl : ops.length ≤ 140737488355328) (hok : ∀ o ∈ ops, okO o) : Runs lp 48 [.p (.sl (Ap ops)), .fn (.func 49) [] []] [] (.p (.bool (!(List.all ops B0))), []) := by
 obtain ⟨m, l⟩ := Hv (lp := lp) (k := 0) (L := Ac Ng 0) (fun i => (tl 0 19 [(0, .p (.sl (Ap ops))), (1, .fn (.func 49) [] []), (7, .p (.int .i64 ((List.length (Ap ops) : Nat) : Int))), (8, .p (.int .i64 (i : Int)))])) [] ops B0 (fun m => (.ret, (tl 0 19 [(4, .p (.int .i64 (m : Int)))]), [])) (rT := (.exit 0, (tl 0 19 []), []))
  (fun i x hx hp => by obtain ⟨ok, ps, ⟨vk, vn, vs, vi, vns⟩, ts⟩ := x; exact Yo _ _ _ _ _ _ _ _ (by rw [Bd]; exact dlt (Ec hx)) hx (sWr _ (hok _ (List.mem_of_getElem? hx))) hp)
  (fun i x r hx hp hr => by obtain ⟨ok, ps, ⟨vk, vn, vs, vi, vns⟩, ts⟩ := x; exact Yn _ _ _ _ _ _ _ _ (by rw [Bd]; exact dlt (Ec hx)) hx (sWr _ (hok _ (List.mem_of_getElem? hx))) hp (by rw [nx (by have := Ec hx; omega)]; exact hr))
  (oIdxR_n (by rw [Bd]; exact B8))
 have hi := @oIdx0 ops m (fun h => by rw [h] at l; exact l) (fun h => by rw [h] at l; exact l)
 refine ifE (@oCon0 ops m (fun h => by rw [h] at hi; exact hi) (fun h => by rw [h] at hi; exact hi)) ?_
 cases ops.all B0 <;> simp
def Nq (l : List Pt) : List LObj := if l = [] then [] else [.spare 1 (List.length (Ah l))]
def tGP (b : Nat) (l : List Pt) : LV := if l = [] then .tight [] else .sl (Ah l) b (List.length (Ah l))
theorem Lv (b : Nat) (l : List Pt) (x : Pt) (r : List Pt) : tGP b (l ++ x :: r) = .sl (Ah (l ++ x :: r)) b (List.length (Ah (l ++ x :: r))) := if_neg (by simp)
theorem Jt (l : List Pt) (x : Pt) (r : List Pt) : Nq (l ++ x :: r) = [.spare 1 (List.length (Ah (l ++ x :: r)))] := if_neg (by simp)
theorem Ps {b : Nat} {l : List Pt} (h : l ≠ []) : tGP b l = .sl (Ah l) b (List.length (Ah l)) := if_neg h
theorem Lw {l : List Pt} (h : l ≠ []) : Nq l = [.spare 1 (List.length (Ah l))] := if_neg h
theorem Hl (a : List OpS) (o : OpS) : Ba (a ++ [o]) = Ba a ++ (if o.k == 6 then [o.p, o.t] else [o.p]) := by
 induction a with
 | nil => simp [Ba]
 | cons x r ih => simp only [List.cons_append, Ba]; rw [ih]; split <;> simp
theorem Ff (a : List OpS) : (Ba a).length ≤ 2 * a.length := by
 induction a with
 | nil => simp [Ba]
 | cons x r ih => simp only [Ba]; split <;> simp <;> omega
theorem Ju : ∀ (a b : List OpS), a.foldl (fun l o => l ++ (if o.k == 6 then [o.p, o.t] else [o.p])) (Ba b) = Ba (b ++ a) := by
 intro a
 induction a with
 | nil => intro b; simp
 | cons x r ih => intro b; rw [List.foldl_cons, ← Hl, ih]; simp
theorem Jv {α : Type} {l : List α} {i : Nat} {x : α} (h : l[i]? = some x) : l.take (i + 1) = l.take i ++ [x] := by
 rw [List.take_add_one, h]; rfl
theorem Oi {p : Pt} (h : Bl p = true) : 1 ≤ p.length ∧ p.length ≤ 8 := by
 simp only [Bl, Bool.and_eq_true, decide_eq_true_eq] at h; exact ⟨h.1.1, h.1.2⟩
theorem H0 {o : OpS} (h : B0 o = true) : (1 ≤ o.p.length ∧ o.p.length ≤ 8) ∧ ((o.k == 6) = true → 1 ≤ o.t.length ∧ o.t.length ≤ 8) := by
 simp only [B0, Bool.and_eq_true] at h
 refine ⟨Oi h.1, fun h6 => ?_⟩
 have h2 := h.2
 have e : o.k = 6 := eq_of_beq h6
 rw [e] at h2
 simp only [show ((6 : Int) == 2) = false from rfl, show ((6 : Int) == 6) = true from rfl, if_true, Bool.false_eq_true, if_false, Bool.and_eq_true] at h2
 exact Oi h2.2
theorem M6 (ops : List OpS) (h : ∀ o ∈ ops, (1 ≤ o.p.length ∧ o.p.length ≤ 8) ∧ ((o.k == 6) = true → 1 ≤ o.t.length ∧ o.t.length ≤ 8)) : ∀ q ∈ Ba ops, 1 ≤ q.length ∧ q.length ≤ 140737488355328 := by
 induction ops with
 | nil => intro q hq; simp [Ba] at hq
 | cons o r ih =>
  have h1 := h o (by simp)
  have h2 := ih (fun o ho => h o (by simp [ho]))
  intro q hq
  simp only [Ba] at hq
  by_cases h6 : (o.k == 6) = true
  ·rw [if_pos h6] at hq
   simp only [List.mem_cons] at hq
   rcases hq with rfl | rfl | hq
   ·omega
   ·have := h1.2 h6; omega
   ·exact h2 q hq
  ·rw [if_neg h6] at hq
   simp only [List.mem_cons] at hq
   rcases hq with rfl | hq
   ·omega
   ·exact h2 q hq
theorem sPlaces {rb : Bool} {k n : Int} {s : List UInt8} {is : List Val} {ns : List (List UInt8)} {ops : List OpS} (hl : ops.length ≤ 100000000000) (hok : ∀ o ∈ ops, okO o) :
  Runs lp 22 [.agg [.p (.bool rb), .p (.int .i64 k), .p (.int .i64 n), .p (.str s), .p (.sl (Ad is)), .p (.sl (Ab ns)), .p (.sl (Ap ops))]] [] (.p (.sl (Ah (if ops.all B0 then Ba ops else []))), []) := by
 cases hm : ops.all B0 with
 | false => exact ifE (sPl0 (l := []) (by rw [hm]; exact hm ▸ oCon (by omega) hok) (fun h => by rw [hm] at h; cases h) (fun h => by rw [hm] at h; cases h)) (by rw [hm]; rfl)
 | true =>
  have hall := fun o ho => List.all_eq_true.1 hm o ho
  have l := C3 (lp := lp) (k := 0) (L := Ac H4 0) (fun i (l : List Pt) => (tl 0 33 [(3, tGP 0 l), (10, .p (.sl (Ap ops))), (11, .p (.int .i64 ((List.length (Ap ops) : Nat) : Int))), (12, .p (.int .i64 (i : Int)))])) (fun _ l => Nq l) ops (fun l o => l ++ (if o.k == 6 then [o.p, o.t] else [o.p]))
   (fun l => (.exit 0, (tl 0 33 [(3, tGP 0 l)]), Nq l)) (fun i l => l = Ba (ops.take i))
   (by
     intro i l o r hx hl
     have hi := Ec hx
     have hmay := H0 (hall o (List.mem_of_getElem? hx))
     have hlen : l.length ≤ 2 * i := by have := Ff (ops.take i); rw [hl]; rw [List.length_take] at this; omega
     refine ⟨?_, fun hr => ?_⟩
     ·rw [Jv hx, Hl, hl]
     ·obtain ⟨ok, ps, ⟨vk, vn, vs, vi, vns⟩, ts⟩ := o
      have c1 := Ye (ns := ps) (by have := hmay.1.2; simp only at this; omega)
      by_cases h6 : (ok == 6) = true
      ·have c2 := Ye (ns := ts) (by have := (hmay.2 h6).2; simp only at this; omega)
       rw [if_pos h6] at hr
       by_cases hl0 : l = []
       ·subst hl0
        exact Yp _ _ _ _ _ _ _ _ (by rw [Bd]; exact dlt hi) hx c1 h6 c2 (by simp) (by rw [nx (by omega)]; exact hr)
       ·rw [Lv, Jt] at hr; rw [Ps hl0, Lw hl0]
        exact Yr _ _ _ _ _ _ _ _ (by rw [Bd]; exact dlt hi) hx c1 (by omega) h6 c2 (by simp; omega) (by rw [nx (by omega), List.append_assoc]; exact hr)
      ·have h6 : (ok == 6) = false := by simpa using h6
       rw [if_neg (by rw [h6]; decide)] at hr
       by_cases hl0 : l = []
       ·subst hl0
        exact Yq _ _ _ _ _ _ _ _ (by rw [Bd]; exact dlt hi) hx c1 h6 (by rw [nx (by omega)]; exact hr)
       ·rw [Lv, Jt] at hr; rw [Ps hl0, Lw hl0]
        exact Ys _ _ _ _ _ _ _ _ (by rw [Bd]; exact dlt hi) hx c1 (by omega) h6 (by rw [nx (by omega)]; exact hr))
   (by
     intro l hl
     by_cases hl : l = []
     ·subst hl; exact sPlR0_n (by rw [Bd]; exact B8)
     ·simp only [tGP, Nq, if_neg hl]; exact sPlR1_n (by rw [Bd]; exact B8)) [] (by simp [Ba])
  have e := Ju ops []
  simp only [Ba, List.nil_append] at e
  rw [e] at l
  have oc := oCon (ops := ops) (by omega) hok
  refine ifE (sPl0 (l := Ba ops) oc (fun _ h => ?_) (fun _ h => ?_)) ?_
  ·have h := of_decide_eq_true h
   rw [h] at l; exact l
  ·have h := of_decide_eq_false h
   simp only [tGP, Nq, if_neg h] at l; exact l
  ·rw [hm]
   by_cases h : Ba ops = []
   ·simp [h, Ah]
   ·simp [h]
theorem rPlaces {rb : Bool} {k n : Int} {s : List UInt8} {is : List Val} {ns : List (List UInt8)} {ops : List OpS} (hl : ops.length ≤ 100000000000) (hm : ops.all B0 = true) :
  Runs lp 29 [.agg [.p (.bool rb), .p (.int .i64 k), .p (.int .i64 n), .p (.str s), .p (.sl (Ad is)), .p (.sl (Ab ns)), .p (.sl (Ap ops))]] [] (.p (.sl (Ah (Ba ops))), []) := by
  have hall := fun o ho => List.all_eq_true.1 hm o ho
  have l := C3 (lp := lp) (k := 0) (L := Ac H5 0) (fun i (l : List Pt) => (tl 0 38 [(1, .ptr 0 0 0), (3, tGP 1 l), (4, .p (.int .i64 (i : Int)))])) (fun _ l => (.row [[.p (.bool rb), .p (.int .i64 k), .p (.int .i64 n), .p (.str s), (.p (.sl (Ad is))), (.p (.sl (Ab ns))), (.p (.sl (Ap ops)))]]) :: Nq l) ops (fun l o => l ++ (if o.k == 6 then [o.p, o.t] else [o.p]))
   (fun l => (.exit 0, (tl 0 38 [(3, tGP 1 l)]), (.row [[.p (.bool rb), .p (.int .i64 k), .p (.int .i64 n), .p (.str s), (.p (.sl (Ad is))), (.p (.sl (Ab ns))), (.p (.sl (Ap ops)))]]) :: Nq l)) (fun i l => l = Ba (ops.take i))
   (by
     intro i l o r hx hl
     have hi := Ec hx
     have hmay := H0 (hall o (List.mem_of_getElem? hx))
     have hlen : l.length ≤ 2 * i := by have := Ff (ops.take i); rw [hl]; rw [List.length_take] at this; omega
     refine ⟨?_, fun hr => ?_⟩
     ·rw [Jv hx, Hl, hl]
     ·obtain ⟨ok, ps, ⟨vk, vn, vs, vi, vns⟩, ts⟩ := o
      by_cases h6 : (ok == 6) = true
      ·rw [if_pos h6] at hr
       by_cases hl0 : l = []
       ·subst hl0
        exact Yt _ _ _ _ _ _ _ _ (by rw [Bd]; exact dlt hi) hx h6 (by simp) (by rw [nx (by omega)]; exact hr)
       ·rw [Lv, Jt] at hr; rw [Ps hl0, Lw hl0]
        exact Yv _ _ _ _ _ _ _ _ (by rw [Bd]; exact dlt hi) hx (by omega) h6 (by simp; omega) (by rw [nx (by omega), List.append_assoc]; exact hr)
      ·have h6 : (ok == 6) = false := by simpa using h6
       rw [if_neg (by rw [h6]; decide)] at hr
       by_cases hl0 : l = []
       ·subst hl0
        exact Yu _ _ _ _ _ _ _ _ (by rw [Bd]; exact dlt hi) hx h6 (by rw [nx (by omega)]; exact hr)
       ·rw [Lv, Jt] at hr; rw [Ps hl0, Lw hl0]
        exact Yw _ _ _ _ _ _ _ _ (by rw [Bd]; exact dlt hi) hx (by omega) h6 (by rw [nx (by omega)]; exact hr))
   (by
     intro l hl
     by_cases hl : l = []
     ·subst hl; exact rPlR0_n (by rw [Bd]; exact B8)
     ·simp only [tGP, Nq, if_neg hl]; exact rPlR1_n (by rw [Bd]; exact B8)) [] (by simp [Ba])
  have e := Ju ops []
  simp only [Ba, List.nil_append] at e
  rw [e] at l
  refine ifE (rPl0 (l := Ba ops) (fun h => ?_) (fun h => ?_)) ?_
  ·have h := of_decide_eq_true h
   rw [h] at l; exact l
  ·have h := of_decide_eq_false h
   simp only [tGP, Nq, if_neg h] at l; exact l
  ·by_cases h : Ba ops = []
   ·simp [h, Ah]
   ·simp [h]
theorem idCon {l : List Pt} (hl : l.length ≤ 1000000000000) (hq : ∀ q ∈ l, 1 ≤ q.length) : Runs lp 50 [.p (.sl (Ah l)), .fn (.func 51) [] []] [] (.p (.bool (List.any l (fun q => List.getD q 0 [] == [95, 105, 100]))), []) := by
 obtain ⟨m, h⟩ := Hv (lp := lp) (k := 0) (L := Ac Hb 0) (fun i => (tl 0 19 [(0, .p (.sl (Ah l))), (1, .fn (.func 51) [] []), (7, .p (.int .i64 ((List.length (Ah l) : Nat) : Int))), (8, .p (.int .i64 (i : Int)))])) [] l (fun q => !(List.getD q 0 [] == [95, 105, 100])) (fun m => (.ret, (tl 0 19 [(4, .p (.int .i64 (m : Int)))]), [])) (rT := (.exit 0, (tl 0 19 []), []))
  (fun i x hx hp => by have e := Np hx; have hi := Ec hx; exact Yx (by rw [Bq]; exact dlt hi) hi (by rw [e]; exact sId0 (hq _ (List.mem_of_getElem? hx))) (by rw [e]; simpa using hp))
  (fun i x r hx hp hr => by have e := Np hx; have hi := Ec hx; exact Yy (by rw [Bq]; exact dlt hi) hi (by rw [e]; exact sId0 (hq _ (List.mem_of_getElem? hx))) (by rw [e]; simpa using hp) (by rw [nx (by omega)]; exact hr))
  (iIdxR_n (by rw [Bq]; exact B8))
 have en : List.any l (fun q => List.getD q 0 [] == [95, 105, 100]) = !(l.all (fun q => !(List.getD q 0 [] == [95, 105, 100]))) := by rw [← Gb]; simp
 rw [en]
 have hi := @iIdx0 l m (l.all (fun q => !(List.getD q 0 [] == [95, 105, 100]))) (fun b => by rw [b] at h; exact h) (fun b => by rw [b] at h; exact h)
 refine ifE (@iCon0 l m (l.all (fun q => !(List.getD q 0 [] == [95, 105, 100]))) (fun b => by rw [b] at hi; exact hi) (fun b => by rw [b] at hi; exact hi)) ?_
 cases (l.all (fun q => !(List.getD q 0 [] == [95, 105, 100]))) <;> simp
theorem mCon {l : List Pt} {p : Pt} (hl : l.length ≤ 1000000000000) (hq : ∀ q ∈ l, q.length ≤ 140737488355328) (hp0 : p.length ≤ 140737488355328) : Runs lp 50 [.p (.sl (Ah l)), .fn (.func 52) [] [.ptr 0 0 0]] [.row [[.p (.sl (Ab p))]]] (.p (.bool (List.any l (C6 p))), [.row [[.p (.sl (Ab p))]]]) := by
 obtain ⟨m, h⟩ := Hv (lp := lp) (k := 1) (L := Ac Hb 0) (fun i => (tl 0 19 [(0, .p (.sl (Ah l))), (1, .fn (.func 52) [] [.ptr 0 0 0]), (7, .p (.int .i64 ((List.length (Ah l) : Nat) : Int))), (8, .p (.int .i64 (i : Int)))])) [.row [[.p (.sl (Ab p))]]] l (fun q => !(C6 p q)) (fun m => (.ret, (tl 0 19 [(4, .p (.int .i64 (m : Int)))]), [.row [[.p (.sl (Ab p))]]])) (rT := (.exit 0, (tl 0 19 []), [.row [[.p (.sl (Ab p))]]]))
  (fun i x hx hp => by have e := Np hx; have hi := Ec hx; exact Yz (by rw [Bq]; exact dlt hi) hi (by rw [e]; exact sC10 (pMeet hp0 (hq _ (List.mem_of_getElem? hx)))) (by rw [e]; simpa using hp))
  (fun i x r hx hp hr => by have e := Np hx; have hi := Ec hx; exact Y0 (by rw [Bq]; exact dlt hi) hi (by rw [e]; exact sC10 (pMeet hp0 (hq _ (List.mem_of_getElem? hx)))) (by rw [e]; simpa using hp) (by rw [nx (by omega)]; exact hr))
  (mIdxR_n (by rw [Bq]; exact B8))
 have en : List.any l (C6 p) = !(l.all (fun q => !(C6 p q))) := by rw [← Gb]; simp
 rw [en]
 have hi := @mIdx0 l m (l.all (fun q => !(C6 p q))) p (fun b => by rw [b] at h; exact h) (fun b => by rw [b] at h; exact h)
 refine ifE (@mCon0 l m (l.all (fun q => !(C6 p q))) p (fun b => by rw [b] at hi; exact hi) (fun b => by rw [b] at hi; exact hi)) ?_
 cases (l.all (fun q => !(C6 p q))) <;> simp
theorem nCon {ns : List (List UInt8)} {s : List UInt8} (hl : ns.length ≤ 10000000000000) : Runs lp 74 [.p (.sl (Ab ns)), .p (.str s)] [] (.p (.bool (List.contains ns s)), []) := by
 obtain ⟨m, h⟩ := Hv (lp := lp) (k := 0) (L := Ac Nj 0) (fun i => (tl 0 19 [(0, .p (.sl (Ab ns))), (1, .p (.str s)), (7, .p (.int .i64 ((List.length (Ab ns) : Nat) : Int))), (8, .p (.int .i64 (i : Int)))])) [] ns (fun q => !(s == q)) (fun m => (.ret, (tl 0 19 [(4, .p (.int .i64 (m : Int)))]), [])) (rT := (.exit 0, (tl 0 19 []), []))
  (fun i x hx hp => by have e := Dq hx; have hi := Ec hx; exact Y1 (by rw [Aq]; exact dlt hi) hi (by rw [e]; simpa using hp))
  (fun i x r hx hp hr => by have e := Dq hx; have hi := Ec hx; exact Y2 (by rw [Aq]; exact dlt hi) hi (by rw [e]; simpa using hp) (by rw [nx (by omega)]; exact hr))
  (nIdxR_n (by rw [Aq]; exact B8))
 have en : List.contains ns s = !(ns.all (fun q => !(s == q))) := by rw [List.contains_eq_any_beq, ← Gb]; simp only [Bool.not_not]
 rw [en]
 have hi := @nIdx0 ns s m (ns.all (fun q => !(s == q))) (fun b => by rw [b] at h; exact h) (fun b => by rw [b] at h; exact h)
 refine ifE (@nCon0 ns s m (ns.all (fun q => !(s == q))) (fun b => by rw [b] at hi; exact hi) (fun b => by rw [b] at hi; exact hi)) ?_
 cases (ns.all (fun q => !(s == q))) <;> simp
theorem Zf {v : Val} {ops : List OpS} {rb : Bool} (hok : okV v) (hd : Ax v ≤ 1000000) : Runs lp 46 [.agg ([.p (.bool rb)] ++ (O5 v).map .p ++ [.p (.sl (Ap ops))])] [] (.p (.int .i64 (Bp true v ops)), []) := by
 have hc := Sr _ hok hd
 obtain ⟨k, n, s, is, ns⟩ := v
 obtain ⟨_, hn, hs, hil, hnl, hns, his⟩ := Dp hok
 refine ifE (sRep0 (fun _ _ => hc) (fun _ _ h => by have h := Rn (eq_of_beq h); exact nCon (by omega))) ?_
 simp only [Bd, Bp, K8, Pb, if_true]
 by_cases h1 : 0 < ops.length
 ·rw [if_pos (decide_eq_true (by omega))]; simp [h1]
 ·rw [if_neg (fun h => by have := of_decide_eq_true h; omega)]
  by_cases h2 : k = 7
  ·subst h2
   by_cases h3 : Av (.mk 7 n s is ns) = 0
   ·simp [h1, h3]; split <;> rfl
   ·simp [h1, h3]
  ·simp [h1, h2]
theorem S8 {l : List Pt} (hl : l.length ≤ 1000000000) (hq : ∀ q ∈ l, q.length ≤ 140737488355328) : ∀ (j i : Nat), i + j = l.length → ∃ m : Nat, LoopN lp 0 (Ac Nc 0) (tl 0 48 [(3, .p (.sl (Ah l))), (35, .p (.sl (Ah l))), (36, .p (.int .i64 ((List.length (Ah l) : Nat) : Int))), (37, .p (.int .i64 (i : Int)))]) []
  (if Df (l.take i) (l.drop i) = true then (.ret, (tl 0 48 [(2, .p (.int .i64 71))]), [.row [[.p (.sl (Ab (List.getD (α := Pt) l m [])))]]]) else (.exit 0, (tl 0 48 []), [])) := by
 intro j
 induction j with
 | zero =>
  intro i h
  obtain rfl : i = l.length := by omega
  rw [List.drop_length]
  exact ⟨0, sCkR_n (by rw [Bq]; exact B8)⟩
 | succ j ih =>
  intro i h
  have hi : i < l.length := by omega
  have hx : l[i]? = some l[i] := List.getElem?_eq_getElem hi
  have e := Np hx
  have hm := mCon (l := l.take i) (p := l.getD i []) (by rw [List.length_take]; omega) (fun q h => hq q (List.mem_of_mem_take h)) (by rw [e]; exact hq _ (List.getElem_mem hi))
  rw [Ch hx, Df, ← Jv hx]
  cases hp : List.any (l.take i) (C6 (l.getD i [])) with
  | true =>
   rw [e] at hp
   refine ⟨i, ?_⟩
   rw [hp, Bool.true_or, if_pos rfl]
   exact sCkR_yy (by rw [Bq]; exact dlt hi) hi (by omega) hm (by rw [e]; exact hp)
  | false =>
   obtain ⟨m, hr⟩ := ih (i + 1) (by omega)
   have hp' := hp
   rw [e] at hp'
   refine ⟨m, ?_⟩
   rw [hp', Bool.false_or]
   exact sCkR_yn (by rw [Bq]; exact dlt hi) hi (by omega) hm hp (by rw [nx (by omega)]; exact hr)
theorem Ug (v : Val) {ops : List OpS} {rb : Bool} (hok : okV v) (hd : Ax v ≤ 1000000) (hl : ops.length ≤ 100000000) (ho : ∀ o ∈ ops, okO o) : Runs lp 20 [.agg ([.p (.bool rb)] ++ (O5 v).map .p ++ [.p (.sl (Ap ops))])] [] (.p (.int .i64 (Bp rb v ops)), []) := by
 have hrp := Zf (ops := ops) (rb := rb) hok hd
 have hno := sNone v hok
 have hoc := oCon (ops := ops) (by omega) ho
 have hpl := fun k n s is ns => @sPlaces rb k n s is ns ops (by omega) ho
 have hpq : ops.all B0 = true → ∀ q ∈ Ba ops, 1 ≤ q.length ∧ q.length ≤ 140737488355328 := fun hm => M6 ops fun o ho => H0 (List.all_eq_true.1 hm o ho)
 have hll := Ff ops
 obtain ⟨k, n, s, is, ns⟩ := v
 by_cases hm : ops.all B0 = true
 ·obtain ⟨m, hcl⟩ := S8 (l := Ba ops) (by omega) (fun q h => (hpq hm q h).2) (Ba ops).length 0 (by omega)
  rw [List.take_zero, List.drop_zero] at hcl
  refine ifE (sCk0 (l := Ba ops) (i := m) (fun _ => hrp) (fun _ => hno) (fun _ _ _ _ => hoc) (fun _ _ _ _ _ => by have := hpl k n s is ns; rw [if_pos hm] at this; exact this) (fun _ _ _ _ _ => idCon (by omega) (fun q h => (hpq hm q h).1))
   (fun _ _ _ _ _ _ h => by rw [h] at hcl; exact hcl) (fun _ _ _ _ _ _ h => by rw [h] at hcl; exact hcl)) ?_
  rw [hm, Bd]
  cases rb with
  | true => rfl
  | false =>
   simp only [Bp, hm, Bool.false_eq_true, if_false, if_true, Bool.not_true, Bool.or_false]
   by_cases h1 : Bt (.mk k n s is ns) = true
   ·rw [if_pos h1, h1]
    by_cases h2 : ops.length < 1
    ·rw [if_pos (decide_eq_true (by omega))]; simp [h2]
    ·rw [if_neg (fun h => by have := of_decide_eq_true h; omega)]
     by_cases h3 : 16 < ops.length
     ·rw [if_pos (decide_eq_true (by omega))]; simp [h3]
     ·rw [if_neg (fun h => by have := of_decide_eq_true h; omega)]
      have e1 : decide (ops.length < 1) = false := decide_eq_false h2
      have e2 : decide (16 < ops.length) = false := decide_eq_false h3
      simp only [e1, e2, Bool.not_true, Bool.or_false, Bool.false_eq_true, if_false]
      split
      ·rfl
      ·split <;> rfl
   ·rw [if_neg h1]; simp [h1]
 ·refine ifE (sCk0 (l := []) (i := 0) (fun _ => hrp) (fun _ => hno) (fun _ _ _ _ => hoc) (fun _ _ _ _ h => absurd h hm) (fun _ _ _ _ h => absurd h hm) (fun _ _ _ _ h => absurd h hm) (fun _ _ _ _ h => absurd h hm)) ?_
  have hm : ops.all B0 = false := by simpa using hm
  rw [hm]
  cases rb with
  | true => rfl
  | false => simp [Bp, hm]
end Go.Proofs.YtegboccilfofmaaGreat

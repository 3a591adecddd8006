import Derived.Test.YtegboccilfofmaaGreatLsSpcW3
set_option linter.unusedVariables false
set_option maxRecDepth 100000
set_option linter.unusedSimpArgs false
namespace Go.Proofs.YtegboccilfofmaaGreat
open Go Go.LS
theorem rPlace {n : Int} {s : List UInt8} {is : List Val} {ns : List (List UInt8)} {x : List UInt8} (hl : ns.length ≤ 10000000000000) : ∃ m : Nat, (ns.contains x = true → m < ns.length) ∧ Runs lp 63 [.agg [.p (.int .i64 7), .p (.int .i64 n), .p (.str s), .p (.sl (Ad is)), .p (.sl (Ab ns))], .p (.str x)] [] (.p (.int .i64 (if ns.contains x then (m : Int) else -1)), []) := by
 have key : ∀ j i, i + j = ns.length → ∃ m : Nat, ((ns.drop i).contains x = true → m < ns.length) ∧ LoopN lp 0 (Ac Nf 0) (tl 0 36 [(1, .p (.str x)), (2, .ptr 0 0 0), (6, .p (.int .i64 (i : Int)))]) [.row [[.p (.int .i64 7), .p (.int .i64 n), .p (.str s), (.p (.sl (Ad is))), (.p (.sl (Ab ns)))]]] (if (ns.drop i).contains x = true then (.ret, (tl 0 36 [(4, .p (.int .i64 (m : Int)))]), [.row [[.p (.int .i64 7), .p (.int .i64 n), .p (.str s), (.p (.sl (Ad is))), (.p (.sl (Ab ns)))]]]) else (.exit 0, (tl 0 36 []), [.row [[.p (.int .i64 7), .p (.int .i64 n), .p (.str s), (.p (.sl (Ad is))), (.p (.sl (Ab ns)))]]])) := by
  intro j
  induction j with
  | zero =>
   intro i h
   obtain rfl : i = ns.length := by omega
   rw [List.drop_length]
   exact ⟨0, by simp, rPcR_n (by rw [Aq]; exact B8)⟩
  | succ j ih =>
   intro i h
   have hi : i < ns.length := by omega
   have hx : ns[i]? = some ns[i] := List.getElem?_eq_getElem hi
   have e := Dq hx
   rw [Ch hx, List.contains_cons]
   cases hp : (ns[i] == x) with
   | true =>
    have hp' : (x == ns[i]) = true := by rw [beq_iff_eq] at hp ⊢; exact hp.symm
    exact ⟨i, fun _ => hi, by rw [hp', Bool.true_or, if_pos rfl]; exact rPcR_yy (by rw [Aq]; exact dlt hi) hi (by rw [e]; exact hp)⟩
   | false =>
    obtain ⟨m, h1, h2⟩ := ih (i + 1) (by omega)
    have hp' : (x == ns[i]) = false := by rw [beq_eq_false_iff_ne] at hp ⊢; exact fun h => hp h.symm
    exact ⟨m, by rw [hp', Bool.false_or]; exact h1, by rw [hp', Bool.false_or]; exact rPcR_yn (by rw [Aq]; exact dlt hi) hi (by rw [e]; exact hp) (by rw [nx (by omega)]; exact h2)⟩
 obtain ⟨m, h1, h2⟩ := key ns.length 0 (by omega)
 rw [List.drop_zero] at h1 h2
 refine ⟨m, h1, ?_⟩
 refine ifE (rPc0 (bb := ns.contains x) (fun h => by rw [h] at h2; exact h2) (fun h => by rw [h] at h2; exact h2)) ?_
 cases ns.contains x <;> rfl
theorem rGetId {n : Int} {s : List UInt8} {is : List Val} {ns : List (List UInt8)} (hl : ns.length ≤ 10000000000000) (hn : ns.length = is.length) : ∃ v : Val, Runs lp 28 [.agg [.p (.int .i64 7), .p (.int .i64 n), .p (.str s), .p (.sl (Ad is)), .p (.sl (Ab ns))], .p (.sl [[.str [95, 105, 100]]])] []
  (if ns.contains ([95, 105, 100] : List UInt8) then .tup [Eo v, .p (.bool true)] else .tup [.agg [.p (.int .i64 0), .p (.int .i64 0), .p (.str []), .p (.sl []), .p (.sl [])], .p (.bool false)], []) := by
 obtain ⟨m, h1, h2⟩ := rPlace (n := n) (s := s) (is := is) (x := [95, 105, 100]) hl
 cases hb : ns.contains ([95, 105, 100] : List UInt8) with
 | false =>
  rw [hb] at h2
  exact ⟨.mk 0 0 [] [] [], ifE (rGt0 (m := 0) (bb := false) (ke := 0) (ne := 0) (se := []) (ise := []) (nse := []) (fun h => by cases h) (fun h => by cases h) (fun h => by cases h) (fun _ => h2)) (by simp)⟩
 | true =>
  rw [hb] at h2
  have hm : m < is.length := hn ▸ h1 hb
  have hg : is[m]? = some is[m] := List.getElem?_eq_getElem hm
  generalize is[m] = v at hg
  obtain ⟨ke, ne, se, ise, nse⟩ := v
  refine ⟨.mk ke ne se ise nse, ifE (rGt0 (m := m) (bb := true) (fun _ _ => h2) (fun _ _ => h2) (fun _ _ => hg) (fun h => by cases h)) ?_⟩
  rw [if_pos rfl, if_neg (fun h => by have := of_decide_eq_true h; omega)]
  rfl
theorem S9 {rb : Bool} {k n : Int} {s : List UInt8} {is : List Val} {ns : List (List UInt8)} {ops : List OpS} : ((if (rb) = true then (if (((List.length (Ap ops) : Nat) : Int) == 0) = true then (if (k == 7) = true then (((.p (.bool ((Av (Val.mk k n s is ns)) == 0))), [])) else ((.p (.bool false), []))) else ((.p (.bool false), []))) else (if (Bt (Val.mk k n s is ns)) = true then (if (decide (((List.length (Ap ops) : Nat) : Int) < 1)) = true then ((.p (.bool false), [])) else (if (decide (((List.length (Ap ops) : Nat) : Int) > 16)) = true then ((.p (.bool false), [])) else (if (List.all ops B0) = true then ((.p (.bool true), [])) else ((.p (.bool false), []))))) else ((.p (.bool false), []))))) = ((LV.p (PV.bool (Ci rb (.mk k n s is ns) ops)), []) : LV × List LObj) := by
 rw [Bd]
 cases rb with
 | true =>
  simp only [Ci, K8, if_true]
  by_cases h1 : ops.length = 0
  ·have e : (((ops.length : Nat) : Int) == 0) = true := by rw [h1]; rfl
   rw [if_pos e]
   by_cases h2 : k = 7 <;> simp [h1, h2]
  ·have e : (((ops.length : Nat) : Int) == 0) = false := beq_eq_false_iff_ne.2 (by omega)
   rw [if_neg (by rw [e]; decide)]; simp [h1]
 | false =>
  simp only [Ci, Bool.false_eq_true, if_false]
  by_cases h1 : Bt (.mk k n s is ns) = true
  ·rw [if_pos h1, h1]
   by_cases h2 : ops.length < 1
   ·rw [if_pos (decide_eq_true (by omega))]; simp [h2]
   ·rw [if_neg (fun h => by have := of_decide_eq_true h; omega)]
    by_cases h3 : 16 < ops.length
    ·rw [if_pos (decide_eq_true (by omega))]; simp [h3]
    ·rw [if_neg (fun h => by have := of_decide_eq_true h; omega)]
     have e1 : decide (ops.length < 1) = false := decide_eq_false h2
     have e2 : decide (16 < ops.length) = false := decide_eq_false h3
     rw [e1, e2]
     cases ops.all B0 <;> simp
  ·rw [if_neg h1]; simp [h1]
theorem rPlain (v : Val) {ops : List OpS} {rb : Bool} (hok : okV v) (hd : Ax v ≤ 1000000) (hl : ops.length ≤ 100000000) (ho : ∀ o ∈ ops, okO o) : Runs lp 27 [.agg ([.p (.bool rb)] ++ (O5 v).map .p ++ [.p (.sl (Ap ops))])] [] (.p (.bool (Ci rb v ops)), []) := by
 have hc := Ss _ hok hd
 have hn := rNone _ hok
 obtain ⟨k, n, s, is, ns⟩ := v
 have h := Ea (lp := lp) (k := 0) (L := Ac Nd 0) (fun i => (tl 0 52 [(1, .ptr 0 0 0), (3, .p (.int .i64 (i : Int)))])) [.row [[.p (.bool rb), .p (.int .i64 k), .p (.int .i64 n), .p (.str s), (.p (.sl (Ad is))), (.p (.sl (Ab ns))), (.p (.sl (Ap ops)))]]] ops B0 (rF := (.ret, (tl 0 52 [(2, .p (.bool false))]), [.row [[.p (.bool rb), .p (.int .i64 k), .p (.int .i64 n), .p (.str s), (.p (.sl (Ad is))), (.p (.sl (Ab ns))), (.p (.sl (Ap ops)))]]])) (rT := (.exit 0, (tl 0 52 []), [.row [[.p (.bool rb), .p (.int .i64 k), .p (.int .i64 n), .p (.str s), (.p (.sl (Ad is))), (.p (.sl (Ab ns))), (.p (.sl (Ap ops)))]]]))
  (fun i x hx hp => by obtain ⟨ok, ps, ⟨vk, vn, vs, vi, vns⟩, ts⟩ := x; exact rPnR_yn _ _ _ _ _ _ _ _ (by rw [Bd]; exact dlt (Ec hx)) hx (Yl _ (ho _ (List.mem_of_getElem? hx))) hp)
  (fun i x r hx hp hr => by obtain ⟨ok, ps, ⟨vk, vn, vs, vi, vns⟩, ts⟩ := x; exact rPnR_yy _ _ _ _ _ _ _ _ (by rw [Bd]; exact dlt (Ec hx)) hx (Yl _ (ho _ (List.mem_of_getElem? hx))) hp (by rw [nx (by have := Ec hx; omega)]; exact hr))
  (rPnR_n (by rw [Bd]; exact B8))
 exact ifE (rPn0 (fun _ _ _ => hc) (fun _ => hn) (fun _ _ _ _ b => by rw [b] at h; exact h) (fun _ _ _ _ b => by rw [b] at h; exact h)) S9
theorem rClashJ {l : List Pt} (hl : l.length ≤ 1000000000) (hq : ∀ q ∈ l, q.length ≤ 140737488355328) {i : Nat} (hi : i < l.length) : ∀ (k j : Nat), j + k = i → LoopN lp 0 (Ac lf8 2) (tl 0 68 [(5, .p (.sl (Ah l))), (7, .p (.int .i64 (i : Int))), (8, .p (.int .i64 (j : Int)))]) []
  (if ((l.take i).drop j).any (C6 (l.getD i [])) = true then (.ret, (tl 0 68 [(2, .p (.int .i64 71))]), []) else (.exit 4, (tl 0 68 [(5, .p (.sl (Ah l))), (7, .p (.int .i64 (i : Int)))]), [])) := by
 intro k
 induction k with
 | zero =>
  intro j h
  obtain rfl : j = i := by omega
  rw [List.drop_eq_nil_of_le (by rw [List.length_take]; omega)]
  exact rCkJ_n (B8)
 | succ k ih =>
  intro j h
  have hj : j < i := by omega
  have hjl : j < l.length := by omega
  have hx : (l.take i)[j]? = some l[j] := by rw [List.getElem?_take_of_lt hj, List.getElem?_eq_getElem hjl]
  have e : l.getD j [] = l[j] := Np (List.getElem?_eq_getElem hjl)
  have e2 : l.getD i [] = l[i] := Np (List.getElem?_eq_getElem hi)
  have b1 := Yj (ns := l.getD i []) (ms := l.getD j []) (by rw [e2]; exact hq _ (List.getElem_mem hi))
  have b2 := Yj (ns := l.getD j []) (ms := l.getD i []) (by rw [e]; exact hq _ (List.getElem_mem hjl))
  rw [Ch hx, List.any_cons, ← e]
  have em : C6 (l.getD i []) (l.getD j []) = (List.isPrefixOf (l.getD i []) (l.getD j []) || List.isPrefixOf (l.getD j []) (l.getD i [])) := rfl
  cases h1 : List.isPrefixOf (l.getD i []) (l.getD j []) with
  | true => rw [em, h1]; exact rCkJ_yy (dlt hj) hi hjl b1 h1
  | false =>
   cases h2 : List.isPrefixOf (l.getD j []) (l.getD i []) with
   | true => rw [em, h1, h2]; exact Zg (dlt hj) hi hjl b1 h1 b2 h2
   | false => rw [em, h1, h2, Bool.false_or, Bool.false_or]; exact Zh (dlt hj) hi hjl b1 h1 b2 h2 (by rw [nx (by omega)]; exact ih (j + 1) (by omega))
theorem rClashI {l : List Pt} (hl : l.length ≤ 1000000000) (hq : ∀ q ∈ l, q.length ≤ 140737488355328) : ∀ (j i : Nat), i + j = l.length → LoopN lp 0 (Ac lf8 1) (tl 0 68 [(5, .p (.sl (Ah l))), (7, .p (.int .i64 (i : Int)))]) []
  (if Df (l.take i) (l.drop i) = true then (.ret, (tl 0 68 [(2, .p (.int .i64 71))]), []) else (.exit 2, (tl 0 68 []), [])) := by
 intro j
 induction j with
 | zero =>
  intro i h
  obtain rfl : i = l.length := by omega
  rw [List.drop_length]
  exact rCkI_n (by rw [Bq]; exact B8)
 | succ j ih =>
  intro i h
  have hi : i < l.length := by omega
  have hx : l[i]? = some l[i] := List.getElem?_eq_getElem hi
  have e := Np hx
  have hm := rClashJ hl hq hi i 0 (by omega)
  rw [List.drop_zero, e] at hm
  rw [Ch hx, Df, ← Jv hx]
  cases hp : List.any (l.take i) (C6 l[i]) with
  | true => rw [hp] at hm; rw [Bool.true_or, if_pos rfl]; exact rCkI_yy (metB := true) (by rw [Bq]; exact dlt hi) rfl hm
  | false => rw [hp] at hm; rw [Bool.false_or]; exact rCkI_yn (metB := false) (by rw [Bq]; exact dlt hi) rfl hm (by rw [nx (by omega)]; exact ih (i + 1) (by omega))
theorem rIdL {l : List Pt} (hl : l.length ≤ 1000000000) (hq : ∀ q ∈ l, 1 ≤ q.length) : LoopN lp 0 (Ac lf8 0) (tl 0 68 [(5, .p (.sl (Ah l))), (6, .p (.int .i64 0))]) []
  (if List.any l (fun q => List.getD q 0 [] == [95, 105, 100]) = true then (.ret, (tl 0 68 [(2, .p (.int .i64 70))]), []) else (.exit 0, (tl 0 68 [(5, .p (.sl (Ah l)))]), [])) := by
 have h := Ea (lp := lp) (k := 0) (L := Ac lf8 0) (fun i => (tl 0 68 [(5, .p (.sl (Ah l))), (6, .p (.int .i64 (i : Int)))])) [] l (fun q => !(List.getD q 0 [] == [95, 105, 100])) (rF := (.ret, (tl 0 68 [(2, .p (.int .i64 70))]), [])) (rT := (.exit 0, (tl 0 68 [(5, .p (.sl (Ah l)))]), []))
  (fun i x hx hp => by have e := Np hx; have hi := Ec hx; exact rCkA_yy (by rw [Bq]; exact dlt hi) hi (by rw [e]; exact hq _ (List.mem_of_getElem? hx)) (by rw [e]; simpa using hp))
  (fun i x r hx hp hr => by have e := Np hx; have hi := Ec hx; exact rCkA_yn (by rw [Bq]; exact dlt hi) hi (by rw [e]; exact hq _ (List.mem_of_getElem? hx)) (by rw [e]; simpa using hp) (by rw [nx (by omega)]; exact hr))
  (rCkA_n (by rw [Bq]; exact B8))
 have en : List.any l (fun q => List.getD q 0 [] == [95, 105, 100]) = !(l.all (fun q => !(List.getD q 0 [] == [95, 105, 100]))) := by rw [← Gb]; simp
 rw [en]
 cases hb : l.all (fun q => !(List.getD q 0 [] == [95, 105, 100])) <;> rw [hb] at h <;> exact h
theorem Vs {n : Int} {s : List UInt8} {is : List Val} {ns : List (List UInt8)} (h : Bw (.mk 7 n s is ns) = true) : ns.length = is.length := by
 rw [Bw] at h
 simp only [Bool.and_eq_true] at h
 rcases Rm h.2 with h | h | h | h | h | h
 ·exact absurd h.1 (by decide)
 ·exact absurd h.1 (by decide)
 ·exact absurd h.1 (by decide)
 ·exact absurd h.1 (by decide)
 ·exact absurd h.1 (by decide)
 ·exact h.2.2.2
theorem Rp {rb : Bool} {v : Val} {ops : List OpS} : Bp rb v ops = if Ci rb v ops then (if rb then (if (Pb v).contains ([95, 105, 100] : List UInt8) then 70 else 0) else if (Ba ops).any (fun q => q.getD 0 [] == [95, 105, 100]) then 70 else if Df [] (Ba ops) then 71 else 0) else 72 := by
 cases rb with
 | true =>
  simp only [Bp, Ci, if_true]
  by_cases h1 : ops.length = 0
  ·by_cases h2 : K8 v = 7
   ·by_cases h3 : Av v = 0 <;> simp [h1, h2, h3]
   ·simp [h2]
  ·have : 0 < ops.length := by omega
   simp [h1, this]
 | false =>
  simp only [Bp, Ci, Bool.false_eq_true, if_false]
  cases Bt v <;> cases decide (ops.length < 1) <;> cases decide (16 < ops.length) <;> cases ops.all B0 <;> simp
theorem Uh (v : Val) {ops : List OpS} {rb : Bool} (hok : okV v) (hd : Ax v ≤ 1000000) (hl : ops.length ≤ 100000000) (ho : ∀ o ∈ ops, okO o) : Runs lp 8 [.agg ([.p (.bool rb)] ++ (O5 v).map .p ++ [.p (.sl (Ap ops))])] [] (.p (.int .i64 (Bp rb v ops)), []) := by
 have hp := rPlain v hok hd hl ho (rb := rb)
 have hll := Ff ops
 obtain ⟨k, n, s, is, ns⟩ := v
 rw [Rp]
 by_cases h : Ci rb (.mk k n s is ns) ops = true
 ·cases rb with
  | true =>
   have h' := h
   simp only [Ci, if_true, Bool.and_eq_true, K8] at h'
   obtain ⟨⟨h1, h2⟩, h3⟩ := h'
   obtain rfl : k = 7 := eq_of_beq h2
   have hn : ns.length = is.length := Vs (Rn (eq_of_beq h3)).1
   obtain ⟨_, _, _, hil, hnl, _, _⟩ := Dp hok
   obtain ⟨⟨kz, nz, sz, isz, nsz⟩, hg⟩ := rGetId (n := n) (s := s) (is := is) (ns := ns) (by omega) hn
   refine ifE (rCk0 (l := []) (kz := kz) (nz := nz) (sz := sz) (isz := isz) (nsz := nsz) hp (fun _ _ b => by rw [if_pos b] at hg; exact hg) (fun _ _ b => by rw [if_neg (by rw [b]; decide)] at hg; exact hg) (fun _ b => by cases b) (fun _ b => by cases b) (fun _ b => by cases b) (fun _ b => by cases b) (fun _ b => by cases b)) ?_
   rw [h]
   simp only [if_true, Pb]
   by_cases hc : ns.contains ([95, 105, 100] : List UInt8) = true
   ·simp only [hc, if_true]
   ·simp only [hc, if_false, Bool.false_eq_true]
  | false =>
   have h' := h
   simp only [Ci, Bool.false_eq_true, if_false, Bool.and_eq_true] at h'
   have hm := h'.2
   have hpq := M6 ops fun o ho => H0 (List.all_eq_true.1 hm o ho)
   have h1 := rIdL (l := Ba ops) (by omega) (fun q h => (hpq q h).1)
   have h2 := rClashI (l := Ba ops) (by omega) (fun q h => (hpq q h).2) (Ba ops).length 0 (by omega)
   rw [List.take_zero, List.drop_zero] at h2
   refine ifE (rCk0 (l := Ba ops) (kz := 0) (nz := 0) (sz := []) (isz := []) (nsz := []) hp (fun _ b => by cases b) (fun _ b => by cases b) (fun _ _ => rPlaces (by omega) hm) (fun _ _ b => by rw [b] at h1; exact h1) (fun _ _ b => by rw [b] at h1; exact h1)
    (fun _ _ _ b => by rw [b] at h2; exact h2) (fun _ _ _ b => by rw [b] at h2; exact h2)) ?_
   rw [h]
   simp only [if_true, Bool.false_eq_true, if_false]
   split
   ·rfl
   ·split <;> rfl
 ·refine ifE (rCk0 (l := []) (kz := 0) (nz := 0) (sz := []) (isz := []) (nsz := []) hp (fun b => absurd b h) (fun b => absurd b h) (fun b => absurd b h) (fun b => absurd b h) (fun b => absurd b h) (fun b => absurd b h) (fun b => absurd b h)) ?_
  rw [if_neg h, if_neg h]
end Go.Proofs.YtegboccilfofmaaGreat

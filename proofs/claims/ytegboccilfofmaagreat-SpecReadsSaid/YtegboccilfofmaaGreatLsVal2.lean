import Derived.Test.YtegboccilfofmaaGreatLsVal3W
set_option linter.unusedVariables false
set_option maxRecDepth 100000
set_option linter.unusedSimpArgs false
namespace Go.Proofs.YtegboccilfofmaaGreat
open Go Go.LS
theorem Mu : ∀ v, 1 ≤ Ax v := by
 refine Val.ind fun k n s is ns ih => ?_
 rw [Ax]
 cases is with
 | nil => simp [Bo]
 | cons v r => have := ih v (List.mem_cons_self ..); rw [Bo]; omega
theorem D5 (l : List Val) : 0 ≤ Bo l := by
 cases l with
 | nil => simp [Bo]
 | cons v r => have := Mu v; rw [Bo]; omega
theorem Ir : ∀ {l : List Val} {v : Val}, v ∈ l → Ax v ≤ Bo l
 | x :: r, v, h => by
  rw [Bo]
  rcases List.mem_cons.1 h with rfl | h
  ·omega
  ·have := Ir h; omega
theorem Mv (l : List Val) : ∀ m, 0 ≤ m → l.foldl (fun m x => if Ax x > m then Ax x else m) m = max m (Bo l) := by
 induction l with
 | nil => intro m h; simp [Bo]; omega
 | cons v r ih =>
  intro m h
  have := Mu v
  simp only [List.foldl_cons, Bo]
  rw [ih _ (by split <;> omega)]
  split <;> omega
theorem vDepth : ∀ v, okV v → Ax v ≤ 1000000 → Runs lp 82 [Eo v] [] (.p (.int .i64 (Ax v)), []) := by
 refine Val.ind fun k n s is ns ih hok hd => ?_
 obtain ⟨_, _, _, hil, hnl, hns, his⟩ := Dp hok
 have hdl : Bo is + 1 ≤ 1000000 := by rw [Ax] at hd; exact hd
 have l := C3 (lp := lp) (k := 0) (L := Ac Qn 0) (fun i (m : Int) => tl 0 20 [(3, .p (.int .i64 m)), (7, .p (.sl (Ad is))), (8, .p (.int .i64 ((List.length (Ad is) : Nat) : Int))), (9, .p (.int .i64 (i : Int)))]) (fun _ _ => []) is
  (fun m x => if Ax x > m then Ax x else m) (fun m => (.exit 0, tl 0 20 [(3, .p (.int .i64 m))], [])) (fun _ _ => True)
  (by
    intro i m x r hx _
    obtain ⟨ke, ne, se, ise, nse⟩ := x
    have hi := (List.getElem?_eq_some_iff.1 hx).1
    have hm := List.mem_of_getElem? hx
    have hdx := Ir hm
    exact ⟨trivial, fun hr => vDepR_y ke ne se ise nse (by rw [Au]; exact dlt hi) hx (ih _ hm (his _ hm) (by omega)) (by rw [nx (by omega)]; exact hr)⟩)
  (fun m _ => vDepR_n (by rw [Au]; exact B8)) 0 trivial
 rw [Mv _ _ (Int.le_refl _)] at l
 have hm : max 0 (Bo is) = Bo is := by have := D5 is; omega
 rw [hm] at l
 have h := @vDep0 k n s is ns l
 refine ifE h ?_
 have := D5 is
 rw [A8 (by omega) (by omega), Ax]
theorem rDepth : ∀ v, okV v → Ax v ≤ 1000000 → Runs lp 86 [Eo v] [] (.p (.int .i64 (Ax v)), []) := by
 refine Val.ind fun k n s is ns ih hok hd => ?_
 obtain ⟨_, _, _, hil, hnl, hns, his⟩ := Dp hok
 have hdl : Bo is + 1 ≤ 1000000 := by rw [Ax] at hd; exact hd
 have l := C3 (lp := lp) (k := 0) (L := Ac Nh 0) (fun i (m : Int) => tl 0 25 [(1, .ptr 0 0 0), (3, .p (.int .i64 m)), (4, .p (.int .i64 (i : Int)))]) (fun _ _ => [.row [[.p (.int .i64 k), .p (.int .i64 n), .p (.str s), .p (.sl (Ad is)), .p (.sl (Ab ns))]]]) is
  (fun m x => if Ax x > m then Ax x else m) (fun m => (.exit 0, tl 0 25 [(3, .p (.int .i64 m))], [.row [[.p (.int .i64 k), .p (.int .i64 n), .p (.str s), .p (.sl (Ad is)), .p (.sl (Ab ns))]]])) (fun _ _ => True)
  (by
    intro i m x r hx _
    obtain ⟨ke, ne, se, ise, nse⟩ := x
    have hi := (List.getElem?_eq_some_iff.1 hx).1
    have hm := List.mem_of_getElem? hx
    have hdx := Ir hm
    refine ⟨trivial, fun hr => ?_⟩
    by_cases hgt : Ax (.mk ke ne se ise nse) > m
    ·rw [if_pos hgt] at hr
     exact X5 ke ne se ise nse (by rw [Au]; exact dlt hi) hx (ih _ hm (his _ hm) (by omega)) (decide_eq_true hgt) (by rw [nx (by omega)]; exact hr)
    ·rw [if_neg hgt] at hr
     exact X6 ke ne se ise nse (by rw [Au]; exact dlt hi) hx (ih _ hm (his _ hm) (by omega)) (decide_eq_false hgt) (by rw [nx (by omega)]; exact hr))
  (fun m _ => rDepR_n (by rw [Au]; exact B8)) 0 trivial
 rw [Mv _ _ (Int.le_refl _)] at l
 have hm : max 0 (Bo is) = Bo is := by have := D5 is; omega
 rw [hm] at l
 have h := @rDep0 k n s is ns l
 refine ifE h ?_
 have := D5 is
 rw [A8 (by omega) (by omega), Ax]
theorem T6 {j : Nat} (h : j ≤ 4611686018427387904) : Runs lp 104 [.p (.int .i64 (j : Int))] [] (.p (.int .i64 (Dw j)), []) :=
 ifE (vCount0 (Sh h)) (by rw [Bz, Dw])
theorem So {s : List UInt8} (h : s.length ≤ 140737488355328) : Runs lp 103 [.p (.str s)] [] (.p (.int .i64 (IntKind.wrap .i64 (C5 s))), []) :=
 ifE (vText0 (T6 (by omega))) (by rw [C5, Dw])
theorem Ob (l : List Val) : ∀ m, l.foldl (fun m x => IntKind.wrap .i64 (m + Bu x)) (IntKind.wrap .i64 m) = IntKind.wrap .i64 (m + Gn l) := by
 induction l with
 | nil => intro m; simp [Gn]
 | cons v r ih =>
  intro m
  simp only [List.foldl_cons, Gn]
  rw [show IntKind.wrap .i64 (IntKind.wrap .i64 m + Bu v) = IntKind.wrap .i64 (m + Dx v) by rw [Bu, Ft, Hi], ih, Int.add_assoc]
theorem U7 (l : List (List UInt8)) : ∀ m, l.foldl (fun m x => IntKind.wrap .i64 (m + IntKind.wrap .i64 (C5 x))) (IntKind.wrap .i64 m) = IntKind.wrap .i64 (m + (l.map C5).sum) := by
 induction l with
 | nil => intro m; simp
 | cons v r ih =>
  intro m
  simp only [List.foldl_cons, List.map_cons, List.sum_cons]
  rw [Ft, Hi, ih, Int.add_assoc]
theorem Q3 {k n : Int} {s : List UInt8} {is : List Val} {ns : List (List UInt8)} (h : Bw (.mk k n s is ns) = true) : (∀ v ∈ is, Bw v = true) ∧ De k n s is.length ns = true := by
 simp only [Bw, Bool.and_eq_true, Mr, List.all_eq_true] at h
 exact ⟨h.1.1, h.2⟩
theorem Q4 {k n : Int} {s : List UInt8} {l : Nat} {ns : List (List UInt8)} (h : De k n s l ns = true) :
  (k = 1 ∧ l = 0 ∧ ns = []) ∨ (k = 2 ∧ l = 0 ∧ ns = []) ∨ (k = 3 ∧ l = 0 ∧ ns = []) ∨ (k = 4 ∧ l = 0 ∧ ns = []) ∨ (k = 5 ∧ l = 0 ∧ ns = []) ∨ (k = 6 ∧ ns = []) ∨ (k = 7 ∧ ns.length = l) := by
 unfold De at h
 by_cases h1 : k = 1
 ·subst h1; simp at h; simp [h]
 by_cases h2 : k = 2
 ·subst h2; simp at h; simp [h]
 by_cases h3 : k = 3
 ·subst h3; simp at h; simp [h]
 by_cases h4 : k = 4
 ·subst h4; simp at h; simp [h]
 by_cases h5 : k = 5
 ·subst h5; simp at h; simp [h]
 by_cases h6 : k = 6
 ·subst h6; simp at h; simp [h]
 by_cases h7 : k = 7
 ·subst h7; simp at h; simp [h]
 simp [h1, h2, h3, h4, h5, h6, h7] at h
theorem vSize : ∀ v, okV v → Bw v = true → Runs lp 83 [Eo v] [] (.p (.int .i64 (Bu v)), []) := by
 refine Val.ind fun k n s is ns ih hok hmay => ?_
 obtain ⟨_, hn, hs, hil, hnl, hns, his⟩ := Dp hok
 obtain ⟨hm1, hsh⟩ := Q3 hmay
 have l0 := C3 (lp := lp) (k := 0) (L := Ac Ke 0) (fun i (m : Int) => tl 0 58 [(1, .ptr 0 0 0), (3, .p (.int .i64 m)), (34, .p (.sl (Ad is))), (35, .p (.int .i64 ((List.length (Ad is) : Nat) : Int))), (36, .p (.int .i64 (i : Int)))]) (fun _ _ => [.row [[.p (.int .i64 k), .p (.int .i64 n), .p (.str s), .p (.sl (Ad is)), .p (.sl (Ab ns))]]]) is
  (fun m x => IntKind.wrap .i64 (m + Bu x)) (fun m => (.exit 1, tl 0 58 [(1, .ptr 0 0 0), (3, .p (.int .i64 m))], [.row [[.p (.int .i64 k), .p (.int .i64 n), .p (.str s), .p (.sl (Ad is)), .p (.sl (Ab ns))]]])) (fun _ _ => True)
  (by
    intro i m x r hx _
    obtain ⟨ke, ne, se, ise, nse⟩ := x
    have hi := (List.getElem?_eq_some_iff.1 hx).1
    have hm := List.mem_of_getElem? hx
    exact ⟨trivial, fun hr => vSizI_y ke ne se ise nse (by rw [Au]; exact dlt hi) hx (ih _ hm (his _ hm) (hm1 _ hm)) (by rw [nx (by omega)]; exact hr)⟩)
  (fun m _ => vSizI_n (by rw [Au]; exact B8)) (IntKind.wrap .i64 (1 + Dw is.length)) trivial
 have l1 := fun m0 => C3 (lp := lp) (k := 0) (L := Ac Ke 1) (fun i (m : Int) => tl 0 58 [(3, .p (.int .i64 m)), (46, .p (.sl (Ab ns))), (47, .p (.int .i64 ((List.length (Ab ns) : Nat) : Int))), (48, .p (.int .i64 (i : Int)))]) (fun _ _ => []) ns
  (fun m x => IntKind.wrap .i64 (m + IntKind.wrap .i64 (C5 x))) (fun m => (.exit 3, tl 0 58 [(3, .p (.int .i64 m))], [])) (fun _ _ => True)
  (by
    intro i m x r hx _
    obtain ⟨hi, rfl⟩ := List.getElem?_eq_some_iff.1 hx
    have e : ns.getD i [] = ns[i] := by rw [List.getD, List.getElem?_eq_getElem hi]; rfl
    refine ⟨trivial, fun hr => ?_⟩
    have := vSizN_y (ns := ns) (i := i) (m := m) (r := r) (by rw [Aq]; exact dlt hi) hi (So (by rw [e]; have := hns _ (List.getElem_mem hi); omega)) (by rw [nx (by omega), e]; exact hr)
    exact this)
  (fun m _ => vSizN_n (by rw [Aq]; exact B8)) m0 trivial
 rw [Ob] at l0
 have hz : zz n = zzN n := rfl
 have h := @vSiz0 k n s is ns (IntKind.wrap .i64 (1 + Dw is.length + Gn is)) (IntKind.wrap .i64 (1 + Dw is.length + Gn is + (ns.map C5).sum))
  (fun _ _ _ => Xp hn.1 hn.2) (fun _ _ _ _ => So (by omega)) (fun _ _ _ _ _ => So (by omega)) (fun _ _ _ _ _ => by rw [Au]; exact T6 (by omega))
  (fun _ _ _ _ _ => by rw [Au] at l0 ⊢; exact l0) (fun _ _ _ _ _ => by have := l1 (IntKind.wrap .i64 (1 + Dw is.length + Gn is)); rw [U7] at this; exact this)
 refine ifE h ?_
 rcases Q4 hsh with ⟨rfl, h1, h2⟩ | ⟨rfl, h1, h2⟩ | ⟨rfl, h1, h2⟩ | ⟨rfl, h1, h2⟩ | ⟨rfl, h1, h2⟩ | ⟨rfl, h2⟩ | ⟨rfl, h2⟩
 ·simp [Bu, Dx, A8]
 ·simp [Bu, Dx, A8]
 ·simp [Bu, Dx, Bz, hz]
 ·simp [Bu, Dx, Ft]
 ·simp [Bu, Dx, Ft]
 ·subst h2; simp [Bu, Dx]
 ·simp [Bu, Dx]
theorem Sq (is : List Val) (ns : List (List UInt8)) : ∀ (l : List (Val × List UInt8)) m, l.foldl (fun m x => IntKind.wrap .i64 (IntKind.wrap .i64 (m + Bu x.1) + C5 x.2)) (IntKind.wrap .i64 m) = IntKind.wrap .i64 (m + Gn (l.map (·.1)) + ((l.map (·.2)).map C5).sum) := by
 intro l
 induction l with
 | nil => intro m; simp [Gn]
 | cons v r ih =>
  intro m
  simp only [List.foldl_cons, List.map_cons, List.sum_cons, Gn]
  rw [show IntKind.wrap .i64 (IntKind.wrap .i64 (IntKind.wrap .i64 m + Bu v.1) + C5 v.2) = IntKind.wrap .i64 (m + Dx v.1 + C5 v.2) by rw [Bu, Ft, Hi, Int.add_assoc, Hi, ← Int.add_assoc], ih]
  congr 1
  omega
theorem rSize : ∀ v, okV v → Bw v = true → Runs lp 87 [Eo v] [] (.p (.int .i64 (Bu v)), []) := by
 refine Val.ind fun k n s is ns ih hok hmay => ?_
 obtain ⟨_, hn, hs, hil, hnl, hns, his⟩ := Dp hok
 obtain ⟨hm1, hsh⟩ := Q3 hmay
 have hz : zz n = zzN n := rfl
 have la := fun (hk : (k == 7) = false) m0 => C3 (lp := lp) (k := 0) (L := Ac Kf 0) (fun i (m : Int) => tl 0 62 [(1, .ptr 0 0 0), (3, .p (.int .i64 m)), (4, .p (.int .i64 (i : Int)))]) (fun _ _ => [.row [[.p (.int .i64 k), .p (.int .i64 n), .p (.str s), .p (.sl (Ad is)), .p (.sl (Ab ns))]]]) is
  (fun m x => IntKind.wrap .i64 (m + Bu x)) (fun m => (.exit 1, tl 0 62 [(3, .p (.int .i64 m))], [.row [[.p (.int .i64 k), .p (.int .i64 n), .p (.str s), .p (.sl (Ad is)), .p (.sl (Ab ns))]]])) (fun _ _ => True)
  (by
    intro i m x r hx _
    obtain ⟨ke, ne, se, ise, nse⟩ := x
    have hi := (List.getElem?_eq_some_iff.1 hx).1
    have hm := List.mem_of_getElem? hx
    exact ⟨trivial, fun hr => X8 ke ne se ise nse (by rw [Au]; exact dlt hi) hx (ih _ hm (his _ hm) (hm1 _ hm)) hk (by rw [nx (by omega)]; exact hr)⟩)
  (fun m _ => T5 (by rw [Au]; exact B8)) m0 trivial
 have lb := fun (hk : (k == 7) = true) (hnn : ns.length = is.length) m0 => C3 (lp := lp) (k := 0) (L := Ac Kf 0) (fun i (m : Int) => tl 0 62 [(1, .ptr 0 0 0), (3, .p (.int .i64 m)), (4, .p (.int .i64 (i : Int)))]) (fun _ _ => [.row [[.p (.int .i64 k), .p (.int .i64 n), .p (.str s), .p (.sl (Ad is)), .p (.sl (Ab ns))]]]) (is.zip ns)
  (fun m x => IntKind.wrap .i64 (IntKind.wrap .i64 (m + Bu x.1) + C5 x.2)) (fun m => (.exit 1, tl 0 62 [(3, .p (.int .i64 m))], [.row [[.p (.int .i64 k), .p (.int .i64 n), .p (.str s), .p (.sl (Ad is)), .p (.sl (Ab ns))]]])) (fun _ _ => True)
  (by
    rintro i m ⟨x, y⟩ r hx _
    obtain ⟨ke, ne, se, ise, nse⟩ := x
    rw [List.getElem?_zip_eq_some] at hx
    obtain ⟨hx, hy⟩ := hx
    have hi := (List.getElem?_eq_some_iff.1 hx).1
    have hm := List.mem_of_getElem? hx
    obtain ⟨hj, rfl⟩ := List.getElem?_eq_some_iff.1 hy
    have e : ns.getD i [] = ns[i] := by rw [List.getD, List.getElem?_eq_getElem hj]; rfl
    refine ⟨trivial, fun hr => ?_⟩
    have := X7 (k := k) (n := n) (s := s) (is := is) (ns := ns) (i := i) (m := m) (r := r) ke ne se ise nse (by rw [Au]; exact dlt hi) hx (ih _ hm (his _ hm) (hm1 _ hm)) hk hj (Ip (by rw [e]; simpa [reachBytes] using hns _ (List.getElem_mem hj)))
     (by
       rw [nx (by omega), Bz, e]
       simp only [C5] at hr
       rw [List.length_append]
       simpa using hr)
    exact this)
  (fun m _ => by
    have e : (is.zip ns).length = is.length := by simp; omega
    rw [e]
    exact T5 (by rw [Au]; exact B8)) m0 trivial
 have hv : ∀ j : Nat, IntKind.wrap .i64 (1 + ((As j).length : Int)) = IntKind.wrap .i64 (1 + Dw j) := fun j => rfl
 have h := @rSiz0 k n s is ns (Bu (.mk k n s is ns)) (fun _ _ => Uy hn.1 hn.2) (fun _ _ _ => Ip (by simpa [reachBytes] using hs)) (fun _ _ _ _ => Ip (by simpa [reachBytes] using hs)) (fun _ _ _ _ _ => (by rw [Au]; exact Hh (by omega))) (fun _ _ _ _ _ => (by have h6 : k = 6 := eq_of_beq (by assumption); subst h6; have hns0 : ns = [] := (by rcases Q4 hsh with h | h | h | h | h | h | h <;> simp_all); have := la rfl (IntKind.wrap .i64 (1 + Dw is.length)); rw [Ob] at this; rw [Au, Bz]; simpa [Bu, Dx, Dw] using this)) (fun _ _ _ _ _ _ => (by rw [Au]; exact Hh (by omega))) (fun _ _ _ _ _ _ => (by have h7 : k = 7 := eq_of_beq (by assumption); subst h7; have hnn : ns.length = is.length := (by rcases Q4 hsh with h | h | h | h | h | h | h <;> simp_all); have := lb rfl hnn (IntKind.wrap .i64 (1 + Dw is.length)); rw [Sq is ns, List.map_fst_zip (by omega), List.map_snd_zip (by omega)] at this; rw [Au, Bz]; simpa [Bu, Dx, Dw] using this)) (fun _ _ _ _ _ _ => (by have h0 : is = [] ∧ k = 1 := (by rcases Q4 hsh with h | h | h | h | h | h | h <;> simp_all); obtain ⟨h0, h1⟩ := h0; subst h0; subst h1; have := la rfl 1; simpa [Bu, Dx, A8] using this))
 refine ifE h ?_
 rcases Q4 hsh with ⟨rfl, h1, h2⟩ | ⟨rfl, h1, h2⟩ | ⟨rfl, h1, h2⟩ | ⟨rfl, h1, h2⟩ | ⟨rfl, h1, h2⟩ | ⟨rfl, h2⟩ | ⟨rfl, h2⟩
 ·simp
 ·simp [Bu, Dx, A8]
 ·simp [Bu, Dx, Bz, hz]
 ·simp [Bu, Dx, Bz, C5]
 ·simp [Bu, Dx, Bz, C5]
 ·simp
 ·simp
theorem Kk : ∀ (l m : List Val), l.length = m.length → (l.zip m).all (fun p => E5 p.1 p.2) = Do l m
 | [], [], _ => rfl
 | v :: r, w :: q, h => by simp only [List.zip_cons_cons, List.all_cons, Do, Kk r q (by simpa using h)]
theorem Kl : ∀ (l m : List (List UInt8)), l.length = m.length → (l.zip m).all (fun p => p.1 == p.2) = (l == m)
 | [], [], _ => rfl
 | v :: r, w :: q, h => by
  simp only [List.zip_cons_cons, List.all_cons, Kl r q (by simpa using h)]
  rfl
theorem Oc : ∀ (l m : List Val), Do l m = true → l.length = m.length
 | [], [], _ => rfl
 | v :: r, w :: q, h => by simp only [Do, Bool.and_eq_true] at h; simp [Oc r q h.2]
 | [], _ :: _, h => by simp [Do] at h
 | _ :: _, [], h => by simp [Do] at h
theorem Mw : ∀ v, E5 v v = true := by
 refine Val.ind fun k n s is ns ih => ?_
 simp only [E5, beq_self_eq_true, Bool.true_and, Bool.and_true]
 induction is with
 | nil => rfl
 | cons v r ihr => simp only [Do, ih v (List.mem_cons_self ..), Bool.true_and]; exact ihr fun w hw => ih w (List.mem_cons_of_mem _ hw)
theorem Yd : ∀ v, okV v → ∀ w, okV w → Runs lp 34 [Eo v, Eo w] [] (.p (.bool (E5 v w)), []) := by
 refine Val.ind fun k n s is ns ih hok w hokw => ?_
 obtain ⟨kp, np, sp, isp, nsp⟩ := w
 obtain ⟨_, hn, hs, hil, hnl, hns, his⟩ := Dp hok
 obtain ⟨_, hnp, hsp, hilp, hnlp, hnsp, hisp⟩ := Dp hokw
 have l0 := fun (hl : is.length = isp.length) => Ea (lp := lp) (k := 0) (L := Ac Ha 0) (fun i => tl 0 81 [(2, .ptr 0 0 0), (3, .ptr 1 0 0), (5, .p (.int .i64 (i : Int)))]) [.row [[.p (.int .i64 k), .p (.int .i64 n), .p (.str s), .p (.sl (Ad is)), .p (.sl (Ab ns))]], .row [[.p (.int .i64 kp), .p (.int .i64 np), .p (.str sp), .p (.sl (Ad isp)), .p (.sl (Ab nsp))]]] (is.zip isp) (fun p => E5 p.1 p.2)
  (rF := (.ret, tl 0 81 [(4, .p (.bool false))], [.row [[.p (.int .i64 k), .p (.int .i64 n), .p (.str s), .p (.sl (Ad is)), .p (.sl (Ab ns))]], .row [[.p (.int .i64 kp), .p (.int .i64 np), .p (.str sp), .p (.sl (Ad isp)), .p (.sl (Ab nsp))]]]))
  (rT := (.exit 0, tl 0 81 [(2, .ptr 0 0 0), (3, .ptr 1 0 0)], [.row [[.p (.int .i64 k), .p (.int .i64 n), .p (.str s), .p (.sl (Ad is)), .p (.sl (Ab ns))]], .row [[.p (.int .i64 kp), .p (.int .i64 np), .p (.str sp), .p (.sl (Ad isp)), .p (.sl (Ab nsp))]]]))
  (by
    rintro i ⟨x, y⟩ hx hp
    rw [List.getElem?_zip_eq_some] at hx
    obtain ⟨hx, hy⟩ := hx
    obtain ⟨ke, ne, se, ise, nse⟩ := x
    obtain ⟨kf, nf, sf, isf, nsf⟩ := y
    have hi := (List.getElem?_eq_some_iff.1 hx).1
    have hm := List.mem_of_getElem? hx
    have hm2 := List.mem_of_getElem? hy
    exact Ya ke ne se ise nse kf nf sf isf nsf (by rw [Au]; exact dlt hi) hx hy (ih _ hm (his _ hm) _ (hisp _ hm2)) hp)
  (by
    rintro i ⟨x, y⟩ r hx hp hr
    rw [List.getElem?_zip_eq_some] at hx
    obtain ⟨hx, hy⟩ := hx
    obtain ⟨ke, ne, se, ise, nse⟩ := x
    obtain ⟨kf, nf, sf, isf, nsf⟩ := y
    have hi := (List.getElem?_eq_some_iff.1 hx).1
    have hm := List.mem_of_getElem? hx
    have hm2 := List.mem_of_getElem? hy
    exact X9 ke ne se ise nse kf nf sf isf nsf (by rw [Au]; exact dlt hi) hx hy (ih _ hm (his _ hm) _ (hisp _ hm2)) hp (by rw [nx (by omega)]; exact hr))
  (by
    have e : (is.zip isp).length = is.length := by simp; omega
    rw [e]
    exact rSamI_n (by rw [Au]; exact B8))
 have l1 := fun (hl : ns.length = nsp.length) => Ea (lp := lp) (k := 0) (L := Ac Ha 1) (fun i => tl 0 81 [(2, .ptr 0 0 0), (3, .ptr 1 0 0), (6, .p (.int .i64 (i : Int)))]) [.row [[.p (.int .i64 k), .p (.int .i64 n), .p (.str s), .p (.sl (Ad is)), .p (.sl (Ab ns))]], .row [[.p (.int .i64 kp), .p (.int .i64 np), .p (.str sp), .p (.sl (Ad isp)), .p (.sl (Ab nsp))]]] (ns.zip nsp) (fun p => p.1 == p.2)
  (rF := (.ret, tl 0 81 [(4, .p (.bool false))], [.row [[.p (.int .i64 k), .p (.int .i64 n), .p (.str s), .p (.sl (Ad is)), .p (.sl (Ab ns))]], .row [[.p (.int .i64 kp), .p (.int .i64 np), .p (.str sp), .p (.sl (Ad isp)), .p (.sl (Ab nsp))]]]))
  (rT := (.exit 2, tl 0 81 [], [.row [[.p (.int .i64 k), .p (.int .i64 n), .p (.str s), .p (.sl (Ad is)), .p (.sl (Ab ns))]], .row [[.p (.int .i64 kp), .p (.int .i64 np), .p (.str sp), .p (.sl (Ad isp)), .p (.sl (Ab nsp))]]]))
  (by
    rintro i ⟨x, y⟩ hx hp
    rw [List.getElem?_zip_eq_some] at hx
    obtain ⟨hx, hy⟩ := hx
    obtain ⟨hi, rfl⟩ := List.getElem?_eq_some_iff.1 hx
    obtain ⟨hj, rfl⟩ := List.getElem?_eq_some_iff.1 hy
    have e : ns.getD i [] = ns[i] := by rw [List.getD, List.getElem?_eq_getElem hi]; rfl
    have e2 : nsp.getD i [] = nsp[i] := by rw [List.getD, List.getElem?_eq_getElem hj]; rfl
    exact Yc (by rw [Aq]; exact dlt hi) hi hj (by rw [e, e2]; exact hp))
  (by
    rintro i ⟨x, y⟩ r hx hp hr
    rw [List.getElem?_zip_eq_some] at hx
    obtain ⟨hx, hy⟩ := hx
    obtain ⟨hi, rfl⟩ := List.getElem?_eq_some_iff.1 hx
    obtain ⟨hj, rfl⟩ := List.getElem?_eq_some_iff.1 hy
    have e : ns.getD i [] = ns[i] := by rw [List.getD, List.getElem?_eq_getElem hi]; rfl
    have e2 : nsp.getD i [] = nsp[i] := by rw [List.getD, List.getElem?_eq_getElem hj]; rfl
    exact Yb (by rw [Aq]; exact dlt hi) hi hj (by rw [e, e2]; exact hp) (by rw [nx (by omega)]; exact hr))
  (by
    have e : (ns.zip nsp).length = ns.length := by simp; omega
    rw [e]
    exact rSamN_n (by rw [Aq]; exact B8))
 have z0 : ((List.length (Ad is) : Nat) : Int) = ((List.length (Ad isp) : Nat) : Int) → is.length = isp.length := by rw [Au, Au]; omega
 have z1 : ((List.length (Ab ns) : Nat) : Int) = ((List.length (Ab nsp) : Nat) : Int) → ns.length = nsp.length := by rw [Aq, Aq]; omega
 have h := @rSam0 k n s is ns kp np sp isp nsp (fun _ _ _ hq _ hc => by have := l0 (z0 (eq_of_beq hq)); rw [Kk _ _ (z0 (eq_of_beq hq)), hc] at this; exact this) (fun _ _ _ _ hq _ hc => by have := l1 (z1 (eq_of_beq hq)); rw [Kl _ _ (z1 (eq_of_beq hq)), hc] at this; exact this) (fun _ _ _ _ hq _ hc => by have := l1 (z1 (eq_of_beq hq)); rw [Kl _ _ (z1 (eq_of_beq hq)), hc] at this; exact this) (fun _ _ _ hq _ hc => by have := l0 (z0 (eq_of_beq hq)); rw [Kk _ _ (z0 (eq_of_beq hq)), hc] at this; exact this)
 refine ifE h ?_
 simp only [E5]
 by_cases c1 : k = kp
 ·by_cases c2 : n = np
  ·by_cases c3 : s = sp
   ·by_cases c4 : is.length = isp.length
    ·by_cases c5 : ns.length = nsp.length
     ·cases hc : Do is isp <;> cases hd : (ns == nsp) <;> simp [c1, c2, c3, c4, c5, hc, hd, Au, Aq]
     ·have : (ns == nsp) = false := by rw [beq_eq_false_iff_ne]; intro h; exact c5 (by rw [h])
      have c5' : ¬ ((ns.length : Int) = nsp.length) := by omega
      simp [c1, c2, c3, c4, c5', Au, Aq, this]
    ·have : Do is isp = false := by
      cases hc : Do is isp with
      | false => rfl
      | true => exact absurd (Oc _ _ hc) c4
     have c4' : ¬ ((is.length : Int) = isp.length) := by omega
     simp [c1, c2, c3, c4', Au, Aq, this]
   ·simp [c1, c2, c3]
  ·simp [c1, c2]
 ·simp [c1]
theorem Ye {ns : List (List UInt8)} (h : ns.length * 16 ≤ 140737488355328) : Runs lp 56 [.p (.sl (Ab ns))] [] (.p (.sl (Ab ns)), []) := by
 cases ns with
 | nil => exact ⟨20, by kernel_rfl⟩
 | cons x r =>
  have q : OpW [] (.append false 1 16 (.const (.tight [])) (.const (.p (.sl (Ab (x :: r)))))) (.sl ([] ++ Ab (x :: r)) 0 ([] ++ Ab (x :: r)).length) [.spare 1 ([] ++ Ab (x :: r)).length] :=
   E4 (size := 1) (bytes := 16) (E := []) (X := Ab (x :: r)) rfl rfl (K7 _) (by simp [Ab]) (by rw [Aq]; simpa using h) (by rw [Aq]; simp at h ⊢; omega) (by decide)
  exact Io (N := 100) (os := [(6, oO q)]) (ps := [_]) (by kernel_rfl) ⟨q, trivial⟩
end Go.Proofs.YtegboccilfofmaaGreat

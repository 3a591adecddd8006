import Derived.Test.YtegboccilfofmaaGreatLsVal3W
set_option linter.unusedVariables false
set_option maxRecDepth 100000
set_option linter.unusedSimpArgs false
namespace Go.Proofs.YtegboccilfofmaaGreat
open Go Go.LS
theorem I2 : ∀ v, 1 ≤ Ay v := by
 refine Val.ind fun k n s is ns ih => ?_
 rw [Ay]
 cases is with
 | nil => simp [Bs]
 | cons v r => have := ih v (List.mem_cons_self ..); rw [Bs]; omega
theorem Ea (l : List Val) : 0 ≤ Bs l := by
 cases l with
 | nil => simp [Bs]
 | cons v r => have := I2 v; rw [Bs]; omega
theorem E6 : ∀ {l : List Val} {v : Val}, v ∈ l → Ay v ≤ Bs l
 | x :: r, v, h => by
  rw [Bs]
  rcases List.mem_cons.1 h with rfl | h
  ·omega
  ·have := E6 h; omega
theorem M6 (l : List Val) : ∀ m, 0 ≤ m → l.foldl (fun m x => if Ay x > m then Ay x else m) m = max m (Bs l) := by
 induction l with
 | nil => intro m h; simp [Bs]; omega
 | cons v r ih =>
  intro m h
  have := I2 v
  simp only [List.foldl_cons, Bs]
  rw [ih _ (by split <;> omega)]
  split <;> omega
theorem vDepth : ∀ v, okV v → Ay v ≤ 1000000 → Runs lp 82 [D4 v] [] (.p (.int .i64 (Ay v)), []) := by
 refine Val.ind fun k n s is ns ih hok hd => ?_
 obtain ⟨_, _, _, hil, hnl, hns, his⟩ := Cq hok
 have hdl : Bs is + 1 ≤ 1000000 := by rw [Ay] at hd; exact hd
 have l := B2 (lp := lp) (k := 0) (L := Ab Q6 0) (fun i (m : Int) => tl 0 20 [(3, .p (.int .i64 m)), (7, .p (.sl (Ac is))), (8, .p (.int .i64 ((List.length (Ac is) : Nat) : Int))), (9, .p (.int .i64 (i : Int)))]) (fun _ _ => []) is
  (fun m x => if Ay x > m then Ay x else m) (fun m => (.exit 0, tl 0 20 [(3, .p (.int .i64 m))], [])) (fun _ _ => True)
  (by
    intro i m x r hx _
    obtain ⟨ke, ne, se, ise, nse⟩ := x
    have hi := (List.getElem?_eq_some_iff.1 hx).1
    have hm := List.mem_of_getElem? hx
    have hdx := E6 hm
    exact ⟨trivial, fun hr => vDepR_y ke ne se ise nse (by rw [Ap]; exact dlt hi) hx (ih _ hm (his _ hm) (by omega)) (by rw [nx (by omega)]; exact hr)⟩)
  (fun m _ => vDepR_n (by rw [Ap]; exact B4)) 0 trivial
 rw [M6 _ _ (Int.le_refl _)] at l
 have hm : max 0 (Bs is) = Bs is := by have := Ea is; omega
 rw [hm] at l
 have h := @vDep0 k n s is ns l
 refine ifE h ?_
 have := Ea is
 rw [A9 (by omega) (by omega), Ay]
theorem rDepth : ∀ v, okV v → Ay v ≤ 1000000 → Runs lp 86 [D4 v] [] (.p (.int .i64 (Ay v)), []) := by
 refine Val.ind fun k n s is ns ih hok hd => ?_
 obtain ⟨_, _, _, hil, hnl, hns, his⟩ := Cq hok
 have hdl : Bs is + 1 ≤ 1000000 := by rw [Ay] at hd; exact hd
 have l := B2 (lp := lp) (k := 0) (L := Ab Ny 0) (fun i (m : Int) => tl 0 25 [(1, .ptr 0 0 0), (3, .p (.int .i64 m)), (4, .p (.int .i64 (i : Int)))]) (fun _ _ => [.row [[.p (.int .i64 k), .p (.int .i64 n), .p (.str s), .p (.sl (Ac is)), .p (.sl (Aa ns))]]]) is
  (fun m x => if Ay x > m then Ay x else m) (fun m => (.exit 0, tl 0 25 [(3, .p (.int .i64 m))], [.row [[.p (.int .i64 k), .p (.int .i64 n), .p (.str s), .p (.sl (Ac is)), .p (.sl (Aa ns))]]])) (fun _ _ => True)
  (by
    intro i m x r hx _
    obtain ⟨ke, ne, se, ise, nse⟩ := x
    have hi := (List.getElem?_eq_some_iff.1 hx).1
    have hm := List.mem_of_getElem? hx
    have hdx := E6 hm
    refine ⟨trivial, fun hr => ?_⟩
    by_cases hgt : Ay (.mk ke ne se ise nse) > m
    ·rw [if_pos hgt] at hr
     exact X0 ke ne se ise nse (by rw [Ap]; exact dlt hi) hx (ih _ hm (his _ hm) (by omega)) (decide_eq_true hgt) (by rw [nx (by omega)]; exact hr)
    ·rw [if_neg hgt] at hr
     exact X1 ke ne se ise nse (by rw [Ap]; exact dlt hi) hx (ih _ hm (his _ hm) (by omega)) (decide_eq_false hgt) (by rw [nx (by omega)]; exact hr))
  (fun m _ => rDepR_n (by rw [Ap]; exact B4)) 0 trivial
 rw [M6 _ _ (Int.le_refl _)] at l
 have hm : max 0 (Bs is) = Bs is := by have := Ea is; omega
 rw [hm] at l
 have h := @rDep0 k n s is ns l
 refine ifE h ?_
 have := Ea is
 rw [A9 (by omega) (by omega), Ay]
theorem T7 {j : Nat} (h : j ≤ 4611686018427387904) : Runs lp 104 [.p (.int .i64 (j : Int))] [] (.p (.int .i64 (Cr j)), []) :=
 ifE (vCount0 (E3 h)) (by rw [Cl, Cr])
theorem Su {s : List UInt8} (h : s.length ≤ 140737488355328) : Runs lp 103 [.p (.str s)] [] (.p (.int .i64 (IntKind.wrap .i64 (Cf s))), []) :=
 ifE (vText0 (T7 (by omega))) (by rw [Cf, Cr])
theorem Ox (l : List Val) : ∀ m, l.foldl (fun m x => IntKind.wrap .i64 (m + Bk x)) (IntKind.wrap .i64 m) = IntKind.wrap .i64 (m + B9 l) := by
 induction l with
 | nil => intro m; simp [B9]
 | cons v r ih =>
  intro m
  simp only [List.foldl_cons, B9]
  rw [show IntKind.wrap .i64 (IntKind.wrap .i64 m + Bk v) = IntKind.wrap .i64 (m + Bu v) by rw [Bk, F0, Hr], ih, Int.add_assoc]
theorem U8 (l : List (List UInt8)) : ∀ m, l.foldl (fun m x => IntKind.wrap .i64 (m + IntKind.wrap .i64 (Cf x))) (IntKind.wrap .i64 m) = IntKind.wrap .i64 (m + (l.map Cf).sum) := by
 induction l with
 | nil => intro m; simp
 | cons v r ih =>
  intro m
  simp only [List.foldl_cons, List.map_cons, List.sum_cons]
  rw [F0, Hr, ih, Int.add_assoc]
theorem F2 {k n : Int} {s : List UInt8} {is : List Val} {ns : List (List UInt8)} (h : Bx (.mk k n s is ns) = true) : (∀ v ∈ is, Bx v = true) ∧ Do k n s is.length ns = true := by
 simp only [Bx, Bool.and_eq_true, M1, List.all_eq_true] at h
 exact ⟨h.1.1, h.2⟩
theorem Iq {k n : Int} {s : List UInt8} {l : Nat} {ns : List (List UInt8)} (h : Do k n s l ns = true) :
  (k = 1 ∧ l = 0 ∧ ns = []) ∨ (k = 2 ∧ l = 0 ∧ ns = []) ∨ (k = 3 ∧ l = 0 ∧ ns = []) ∨ (k = 4 ∧ l = 0 ∧ ns = []) ∨ (k = 5 ∧ l = 0 ∧ ns = []) ∨ (k = 6 ∧ ns = []) ∨ (k = 7 ∧ ns.length = l) := by
 unfold Do at h
 by_cases h1 : k = 1
 ·subst h1; simp at h; simp [h]
 by_cases h2 : k = 2
 ·subst h2; simp at h; simp [h]
 by_cases h3 : k = 3
 ·subst h3; simp at h; simp [h]
 by_cases h4 : k = 4
 ·subst h4; simp at h; simp [h]
 by_cases h5 : k = 5
 ·subst h5; simp at h; simp [h]
 by_cases h6 : k = 6
 ·subst h6; simp at h; simp [h]
 by_cases h7 : k = 7
 ·subst h7; simp at h; simp [h]
 simp [h1, h2, h3, h4, h5, h6, h7] at h
theorem vSize : ∀ v, okV v → Bx v = true → Runs lp 83 [D4 v] [] (.p (.int .i64 (Bk v)), []) := by
 refine Val.ind fun k n s is ns ih hok hmay => ?_
 obtain ⟨_, hn, hs, hil, hnl, hns, his⟩ := Cq hok
 obtain ⟨hm1, hsh⟩ := F2 hmay
 have l0 := B2 (lp := lp) (k := 0) (L := Ab Kq 0) (fun i (m : Int) => tl 0 58 [(1, .ptr 0 0 0), (3, .p (.int .i64 m)), (34, .p (.sl (Ac is))), (35, .p (.int .i64 ((List.length (Ac is) : Nat) : Int))), (36, .p (.int .i64 (i : Int)))]) (fun _ _ => [.row [[.p (.int .i64 k), .p (.int .i64 n), .p (.str s), .p (.sl (Ac is)), .p (.sl (Aa ns))]]]) is
  (fun m x => IntKind.wrap .i64 (m + Bk x)) (fun m => (.exit 1, tl 0 58 [(1, .ptr 0 0 0), (3, .p (.int .i64 m))], [.row [[.p (.int .i64 k), .p (.int .i64 n), .p (.str s), .p (.sl (Ac is)), .p (.sl (Aa ns))]]])) (fun _ _ => True)
  (by
    intro i m x r hx _
    obtain ⟨ke, ne, se, ise, nse⟩ := x
    have hi := (List.getElem?_eq_some_iff.1 hx).1
    have hm := List.mem_of_getElem? hx
    exact ⟨trivial, fun hr => vSizI_y ke ne se ise nse (by rw [Ap]; exact dlt hi) hx (ih _ hm (his _ hm) (hm1 _ hm)) (by rw [nx (by omega)]; exact hr)⟩)
  (fun m _ => vSizI_n (by rw [Ap]; exact B4)) (IntKind.wrap .i64 (1 + Cr is.length)) trivial
 have l1 := fun m0 => B2 (lp := lp) (k := 0) (L := Ab Kq 1) (fun i (m : Int) => tl 0 58 [(3, .p (.int .i64 m)), (46, .p (.sl (Aa ns))), (47, .p (.int .i64 ((List.length (Aa ns) : Nat) : Int))), (48, .p (.int .i64 (i : Int)))]) (fun _ _ => []) ns
  (fun m x => IntKind.wrap .i64 (m + IntKind.wrap .i64 (Cf x))) (fun m => (.exit 3, tl 0 58 [(3, .p (.int .i64 m))], [])) (fun _ _ => True)
  (by
    intro i m x r hx _
    obtain ⟨hi, rfl⟩ := List.getElem?_eq_some_iff.1 hx
    have e : ns.getD i [] = ns[i] := by rw [List.getD, List.getElem?_eq_getElem hi]; rfl
    refine ⟨trivial, fun hr => ?_⟩
    have := vSizN_y (ns := ns) (i := i) (m := m) (r := r) (by rw [Ao]; exact dlt hi) hi (Su (by rw [e]; have := hns _ (List.getElem_mem hi); omega)) (by rw [nx (by omega), e]; exact hr)
    exact this)
  (fun m _ => vSizN_n (by rw [Ao]; exact B4)) m0 trivial
 rw [Ox] at l0
 have hz : zz n = zzN n := rfl
 have h := @vSiz0 k n s is ns (IntKind.wrap .i64 (1 + Cr is.length + B9 is)) (IntKind.wrap .i64 (1 + Cr is.length + B9 is + (ns.map Cf).sum))
  (fun _ _ _ => Rf hn.1 hn.2) (fun _ _ _ _ => Su (by omega)) (fun _ _ _ _ _ => Su (by omega)) (fun _ _ _ _ _ => by rw [Ap]; exact T7 (by omega))
  (fun _ _ _ _ _ => by rw [Ap] at l0 ⊢; exact l0) (fun _ _ _ _ _ => by have := l1 (IntKind.wrap .i64 (1 + Cr is.length + B9 is)); rw [U8] at this; exact this)
 refine ifE h ?_
 rcases Iq hsh with ⟨rfl, h1, h2⟩ | ⟨rfl, h1, h2⟩ | ⟨rfl, h1, h2⟩ | ⟨rfl, h1, h2⟩ | ⟨rfl, h1, h2⟩ | ⟨rfl, h2⟩ | ⟨rfl, h2⟩
 ·simp [Bk, Bu, A9]
 ·simp [Bk, Bu, A9]
 ·simp [Bk, Bu, Cl, hz]
 ·simp [Bk, Bu, F0]
 ·simp [Bk, Bu, F0]
 ·subst h2; simp [Bk, Bu]
 ·simp [Bk, Bu]
theorem Sv (is : List Val) (ns : List (List UInt8)) : ∀ (l : List (Val × List UInt8)) m, l.foldl (fun m x => IntKind.wrap .i64 (IntKind.wrap .i64 (m + Bk x.1) + Cf x.2)) (IntKind.wrap .i64 m) = IntKind.wrap .i64 (m + B9 (l.map (·.1)) + ((l.map (·.2)).map Cf).sum) := by
 intro l
 induction l with
 | nil => intro m; simp [B9]
 | cons v r ih =>
  intro m
  simp only [List.foldl_cons, List.map_cons, List.sum_cons, B9]
  rw [show IntKind.wrap .i64 (IntKind.wrap .i64 (IntKind.wrap .i64 m + Bk v.1) + Cf v.2) = IntKind.wrap .i64 (m + Bu v.1 + Cf v.2) by rw [Bk, F0, Hr, Int.add_assoc, Hr, ← Int.add_assoc], ih]
  congr 1
  omega
theorem rSize : ∀ v, okV v → Bx v = true → Runs lp 87 [D4 v] [] (.p (.int .i64 (Bk v)), []) := by
 refine Val.ind fun k n s is ns ih hok hmay => ?_
 obtain ⟨_, hn, hs, hil, hnl, hns, his⟩ := Cq hok
 obtain ⟨hm1, hsh⟩ := F2 hmay
 have hz : zz n = zzN n := rfl
 have la := fun (hk : (k == 7) = false) m0 => B2 (lp := lp) (k := 0) (L := Ab Kr 0) (fun i (m : Int) => tl 0 62 [(1, .ptr 0 0 0), (3, .p (.int .i64 m)), (4, .p (.int .i64 (i : Int)))]) (fun _ _ => [.row [[.p (.int .i64 k), .p (.int .i64 n), .p (.str s), .p (.sl (Ac is)), .p (.sl (Aa ns))]]]) is
  (fun m x => IntKind.wrap .i64 (m + Bk x)) (fun m => (.exit 1, tl 0 62 [(3, .p (.int .i64 m))], [.row [[.p (.int .i64 k), .p (.int .i64 n), .p (.str s), .p (.sl (Ac is)), .p (.sl (Aa ns))]]])) (fun _ _ => True)
  (by
    intro i m x r hx _
    obtain ⟨ke, ne, se, ise, nse⟩ := x
    have hi := (List.getElem?_eq_some_iff.1 hx).1
    have hm := List.mem_of_getElem? hx
    exact ⟨trivial, fun hr => X3 ke ne se ise nse (by rw [Ap]; exact dlt hi) hx (ih _ hm (his _ hm) (hm1 _ hm)) hk (by rw [nx (by omega)]; exact hr)⟩)
  (fun m _ => T6 (by rw [Ap]; exact B4)) m0 trivial
 have lb := fun (hk : (k == 7) = true) (hnn : ns.length = is.length) m0 => B2 (lp := lp) (k := 0) (L := Ab Kr 0) (fun i (m : Int) => tl 0 62 [(1, .ptr 0 0 0), (3, .p (.int .i64 m)), (4, .p (.int .i64 (i : Int)))]) (fun _ _ => [.row [[.p (.int .i64 k), .p (.int .i64 n), .p (.str s), .p (.sl (Ac is)), .p (.sl (Aa ns))]]]) (is.zip ns)
  (fun m x => IntKind.wrap .i64 (IntKind.wrap .i64 (m + Bk x.1) + Cf x.2)) (fun m => (.exit 1, tl 0 62 [(3, .p (.int .i64 m))], [.row [[.p (.int .i64 k), .p (.int .i64 n), .p (.str s), .p (.sl (Ac is)), .p (.sl (Aa ns))]]])) (fun _ _ => True)
  (by
    rintro i m ⟨x, y⟩ r hx _
    obtain ⟨ke, ne, se, ise, nse⟩ := x
    rw [List.getElem?_zip_eq_some] at hx
    obtain ⟨hx, hy⟩ := hx
    have hi := (List.getElem?_eq_some_iff.1 hx).1
    have hm := List.mem_of_getElem? hx
    obtain ⟨hj, rfl⟩ := List.getElem?_eq_some_iff.1 hy
    have e : ns.getD i [] = ns[i] := by rw [List.getD, List.getElem?_eq_getElem hj]; rfl
    refine ⟨trivial, fun hr => ?_⟩
    have := X2 (k := k) (n := n) (s := s) (is := is) (ns := ns) (i := i) (m := m) (r := r) ke ne se ise nse (by rw [Ap]; exact dlt hi) hx (ih _ hm (his _ hm) (hm1 _ hm)) hk hj (Dn (by rw [e]; simpa [reachBytes] using hns _ (List.getElem_mem hj)))
     (by
       rw [nx (by omega), Cl, e]
       simp only [Cf] at hr
       rw [List.length_append]
       simpa using hr)
    exact this)
  (fun m _ => by
    have e : (is.zip ns).length = is.length := by simp; omega
    rw [e]
    exact T6 (by rw [Ap]; exact B4)) m0 trivial
 have hv : ∀ j : Nat, IntKind.wrap .i64 (1 + ((Ae j).length : Int)) = IntKind.wrap .i64 (1 + Cr j) := fun j => rfl
 have h := @rSiz0 k n s is ns (Bk (.mk k n s is ns)) (fun _ _ => Or hn.1 hn.2) (fun _ _ _ => Dn (by simpa [reachBytes] using hs)) (fun _ _ _ _ => Dn (by simpa [reachBytes] using hs)) (fun _ _ _ _ _ => (by rw [Ap]; exact Da (by omega))) (fun _ _ _ _ _ => (by have h6 : k = 6 := eq_of_beq (by assumption); subst h6; have hns0 : ns = [] := (by rcases Iq hsh with h | h | h | h | h | h | h <;> simp_all); have := la rfl (IntKind.wrap .i64 (1 + Cr is.length)); rw [Ox] at this; rw [Ap, Cl]; simpa [Bk, Bu, Cr] using this)) (fun _ _ _ _ _ _ => (by rw [Ap]; exact Da (by omega))) (fun _ _ _ _ _ _ => (by have h7 : k = 7 := eq_of_beq (by assumption); subst h7; have hnn : ns.length = is.length := (by rcases Iq hsh with h | h | h | h | h | h | h <;> simp_all); have := lb rfl hnn (IntKind.wrap .i64 (1 + Cr is.length)); rw [Sv is ns, List.map_fst_zip (by omega), List.map_snd_zip (by omega)] at this; rw [Ap, Cl]; simpa [Bk, Bu, Cr] using this)) (fun _ _ _ _ _ _ => (by have h0 : is = [] ∧ k = 1 := (by rcases Iq hsh with h | h | h | h | h | h | h <;> simp_all); obtain ⟨h0, h1⟩ := h0; subst h0; subst h1; have := la rfl 1; simpa [Bk, Bu, A9] using this))
 refine ifE h ?_
 rcases Iq hsh with ⟨rfl, h1, h2⟩ | ⟨rfl, h1, h2⟩ | ⟨rfl, h1, h2⟩ | ⟨rfl, h1, h2⟩ | ⟨rfl, h1, h2⟩ | ⟨rfl, h2⟩ | ⟨rfl, h2⟩
 ·simp
 ·simp [Bk, Bu, A9]
 ·simp [Bk, Bu, Cl, hz]
 ·simp [Bk, Bu, Cl, Cf]
 ·simp [Bk, Bu, Cl, Cf]
 ·simp
 ·simp
theorem Sw (d : Int) {ρ : Type} (rd : Int → ρ) : ∀ (l : List Val) m, Fz (fun m x => if m < 65536 then (.inr (IntKind.wrap .i64 (m + Cw d x)) : ρ ⊕ Int) else .inl (rd m)) rd m l = rd (C4 d m l) := by
 intro l
 induction l with
 | nil => intro m; simp [Fz, C4]
 | cons v r ih =>
  intro m
  simp only [Fz, C4]
  by_cases h : m < 65536
  ·simp only [h, if_true]; exact ih _
  ·simp only [h, if_false]
theorem rNodes : ∀ v, okV v → ∀ d, Runs lp 45 [D4 v, .p (.int .i64 d)] [] (.p (.int .i64 (Cw d v)), []) := by
 refine Val.ind fun k n s is ns ih hok d => ?_
 obtain ⟨_, hn, hs, hil, hnl, hns, his⟩ := Cq hok
 have l := H5 (lp := lp) (k := 0) (L := Ab Pn 0) (fun i (m : Int) => tl 0 35 [(1, .p (.int .i64 d)), (2, .ptr 0 0 0), (5, .p (.int .i64 m)), (6, .p (.int .i64 (i : Int)))]) (fun _ _ => [.row [[.p (.int .i64 k), .p (.int .i64 n), .p (.str s), .p (.sl (Ac is)), .p (.sl (Aa ns))]]]) is
  (fun m x => if m < 65536 then .inr (IntKind.wrap .i64 (m + Cw (IntKind.wrap .i64 (d + 1)) x)) else .inl (.exit 0, tl 0 35 [(5, .p (.int .i64 m))], [.row [[.p (.int .i64 k), .p (.int .i64 n), .p (.str s), .p (.sl (Ac is)), .p (.sl (Aa ns))]]]))
  (fun m => (.exit 0, tl 0 35 [(5, .p (.int .i64 m))], [.row [[.p (.int .i64 k), .p (.int .i64 n), .p (.str s), .p (.sl (Ac is)), .p (.sl (Aa ns))]]])) (fun _ _ => True)
  (by
    intro i m x hx _
    obtain ⟨ke, ne, se, ise, nse⟩ := x
    have hi := (List.getElem?_eq_some_iff.1 hx).1
    have hm := List.mem_of_getElem? hx
    by_cases h : m < 65536
    ·simp only [h, if_true]
     refine ⟨fun r h => (by cases h), fun s' hs' => ?_⟩
     cases hs'
     exact ⟨trivial, fun r hr => X4 ke ne se ise nse (by rw [Ap]; exact dlt hi) (decide_eq_true h) hx (ih _ hm (his _ hm) _) (by rw [nx (by omega)]; exact hr)⟩
    ·simp only [h, if_false]
     refine ⟨fun r hr => ?_, fun s' h => (by cases h)⟩
     cases hr
     exact X5 (by rw [Ap]; exact dlt hi) (decide_eq_false h))
  (fun m _ => rNodR_n (by rw [Ap]; exact B4)) (IntKind.wrap .i64 (1 + (ns.length : Int))) trivial
 rw [Sw (IntKind.wrap .i64 (d + 1)) (fun m => ((.exit 0, tl 0 35 [(5, .p (.int .i64 m))], [.row [[.p (.int .i64 k), .p (.int .i64 n), .p (.str s), .p (.sl (Ac is)), .p (.sl (Aa ns))]]]) : C1 × List LV × List LObj))] at l
 have h := @rNod0 k n s is ns d (C4 (IntKind.wrap .i64 (d + 1)) (IntKind.wrap .i64 (1 + (ns.length : Int))) is) (fun _ => by rw [Ao]; exact l)
 refine ifE h ?_
 rw [Cw]
 by_cases hd : d > 40
 ·simp [hd]
 ·simp [hd]
theorem Sx (v : Val) (hok : okV v) : Runs lp 18 [D4 v] [] (.p (.bool (Cn v)), []) := by
 obtain ⟨k, n, s, is, ns⟩ := v
 exact rLarge0 (rNodes _ hok 0)
theorem Sy (d : Int) : ∀ (l : List Val) m, 65536 ≤ m → C4 d m l = m := by
 intro l m h
 cases l with
 | nil => rfl
 | cons v r => rw [C4, if_neg (by omega)]
theorem Jz : ∀ v, okV v → ∀ d : Int, 0 ≤ d → d ≤ 1000 → 1 ≤ Cw d v ∧ Cw d v ≤ 10000000000000 + 65536 * (1001 - d) ∧ (Cw d v < 65536 → Ay v + d ≤ 41) := by
 refine Val.ind fun k n s is ns ih hok d h0 h1 => ?_
 obtain ⟨_, hn, hs, hil, hnl, hns, his⟩ := Cq hok
 rw [Cw, Ay]
 by_cases hd : d > 40
 ·rw [if_pos hd]; omega
 ·rw [if_neg hd, A9 (by omega) (by omega), A9 (by omega) (by omega)]
  have key : ∀ l, (∀ v ∈ l, v ∈ is) → ∀ m, 1 ≤ m → m ≤ 10000000000000 + 65536 * (1001 - d) → 1 ≤ C4 (d + 1) m l ∧ m ≤ C4 (d + 1) m l ∧ C4 (d + 1) m l ≤ 10000000000000 + 65536 * (1001 - d) ∧ (C4 (d + 1) m l < 65536 → Bs l + (d + 1) ≤ 41) := by
   intro l
   induction l with
   | nil => intro _ m hm hm2; simp only [C4, Bs]; exact ⟨hm, by omega, by omega, fun _ => by omega⟩
   | cons v r ihr =>
    intro hl m hm hm2
    have hv := hl v (List.mem_cons_self ..)
    obtain ⟨b1, b2, b3⟩ := ih v hv (his v hv) (d + 1) (by omega) (by omega)
    rw [C4]
    by_cases hmm : m < 65536
    ·rw [if_pos hmm, A9 (by omega) (by omega)]
     by_cases hbig : 65536 ≤ m + Cw (d + 1) v
     ·rw [Sy _ _ _ hbig]
      exact ⟨by omega, by omega, by omega, fun h => by omega⟩
     ·obtain ⟨c1, c2, c3, c4⟩ := ihr (fun w hw => hl w (List.mem_cons_of_mem _ hw)) (m + Cw (d + 1) v) (by omega) (by omega)
      refine ⟨c1, by omega, by omega, fun h => ?_⟩
      have := b3 (by omega)
      have := c4 h
      rw [Bs]
      omega
    ·rw [if_neg hmm]
     exact ⟨hm, by omega, by omega, fun h => by omega⟩
  obtain ⟨c1, c2, c3, c4⟩ := key is (fun v h => h) (1 + (ns.length : Int)) (by omega) (by omega)
  exact ⟨c1, c3, fun h => by have := c4 h; omega⟩
theorem Lj {v : Val} (hok : okV v) (h : Cn v = false) : Ay v ≤ 41 := by
 simp only [Cn, decide_eq_false_iff_not] at h
 have := (Jz v hok 0 (by omega) (by omega)).2.2 (by omega)
 omega
theorem Kv : ∀ (l m : List Val), l.length = m.length → (l.zip m).all (fun p => E5 p.1 p.2) = Dz l m
 | [], [], _ => rfl
 | v :: r, w :: q, h => by simp only [List.zip_cons_cons, List.all_cons, Dz, Kv r q (by simpa using h)]
theorem Kw : ∀ (l m : List (List UInt8)), l.length = m.length → (l.zip m).all (fun p => p.1 == p.2) = (l == m)
 | [], [], _ => rfl
 | v :: r, w :: q, h => by
  simp only [List.zip_cons_cons, List.all_cons, Kw r q (by simpa using h)]
  rfl
theorem Oy : ∀ (l m : List Val), Dz l m = true → l.length = m.length
 | [], [], _ => rfl
 | v :: r, w :: q, h => by simp only [Dz, Bool.and_eq_true] at h; simp [Oy r q h.2]
 | [], _ :: _, h => by simp [Dz] at h
 | _ :: _, [], h => by simp [Dz] at h
theorem M7 : ∀ v, E5 v v = true := by
 refine Val.ind fun k n s is ns ih => ?_
 simp only [E5, beq_self_eq_true, Bool.true_and, Bool.and_true]
 induction is with
 | nil => rfl
 | cons v r ihr => simp only [Dz, ih v (List.mem_cons_self ..), Bool.true_and]; exact ihr fun w hw => ih w (List.mem_cons_of_mem _ hw)
theorem Ya : ∀ v, okV v → ∀ w, okV w → Runs lp 34 [D4 v, D4 w] [] (.p (.bool (E5 v w)), []) := by
 refine Val.ind fun k n s is ns ih hok w hokw => ?_
 obtain ⟨kp, np, sp, isp, nsp⟩ := w
 obtain ⟨_, hn, hs, hil, hnl, hns, his⟩ := Cq hok
 obtain ⟨_, hnp, hsp, hilp, hnlp, hnsp, hisp⟩ := Cq hokw
 have l0 := fun (hl : is.length = isp.length) => Dy (lp := lp) (k := 0) (L := Ab Hj 0) (fun i => tl 0 81 [(2, .ptr 0 0 0), (3, .ptr 1 0 0), (5, .p (.int .i64 (i : Int)))]) [.row [[.p (.int .i64 k), .p (.int .i64 n), .p (.str s), .p (.sl (Ac is)), .p (.sl (Aa ns))]], .row [[.p (.int .i64 kp), .p (.int .i64 np), .p (.str sp), .p (.sl (Ac isp)), .p (.sl (Aa nsp))]]] (is.zip isp) (fun p => E5 p.1 p.2)
  (rF := (.ret, tl 0 81 [(4, .p (.bool false))], [.row [[.p (.int .i64 k), .p (.int .i64 n), .p (.str s), .p (.sl (Ac is)), .p (.sl (Aa ns))]], .row [[.p (.int .i64 kp), .p (.int .i64 np), .p (.str sp), .p (.sl (Ac isp)), .p (.sl (Aa nsp))]]]))
  (rT := (.exit 0, tl 0 81 [(2, .ptr 0 0 0), (3, .ptr 1 0 0)], [.row [[.p (.int .i64 k), .p (.int .i64 n), .p (.str s), .p (.sl (Ac is)), .p (.sl (Aa ns))]], .row [[.p (.int .i64 kp), .p (.int .i64 np), .p (.str sp), .p (.sl (Ac isp)), .p (.sl (Aa nsp))]]]))
  (by
    rintro i ⟨x, y⟩ hx hp
    rw [List.getElem?_zip_eq_some] at hx
    obtain ⟨hx, hy⟩ := hx
    obtain ⟨ke, ne, se, ise, nse⟩ := x
    obtain ⟨kf, nf, sf, isf, nsf⟩ := y
    have hi := (List.getElem?_eq_some_iff.1 hx).1
    have hm := List.mem_of_getElem? hx
    have hm2 := List.mem_of_getElem? hy
    exact X7 ke ne se ise nse kf nf sf isf nsf (by rw [Ap]; exact dlt hi) hx hy (ih _ hm (his _ hm) _ (hisp _ hm2)) hp)
  (by
    rintro i ⟨x, y⟩ r hx hp hr
    rw [List.getElem?_zip_eq_some] at hx
    obtain ⟨hx, hy⟩ := hx
    obtain ⟨ke, ne, se, ise, nse⟩ := x
    obtain ⟨kf, nf, sf, isf, nsf⟩ := y
    have hi := (List.getElem?_eq_some_iff.1 hx).1
    have hm := List.mem_of_getElem? hx
    have hm2 := List.mem_of_getElem? hy
    exact X6 ke ne se ise nse kf nf sf isf nsf (by rw [Ap]; exact dlt hi) hx hy (ih _ hm (his _ hm) _ (hisp _ hm2)) hp (by rw [nx (by omega)]; exact hr))
  (by
    have e : (is.zip isp).length = is.length := by simp; omega
    rw [e]
    exact rSamI_n (by rw [Ap]; exact B4))
 have l1 := fun (hl : ns.length = nsp.length) => Dy (lp := lp) (k := 0) (L := Ab Hj 1) (fun i => tl 0 81 [(2, .ptr 0 0 0), (3, .ptr 1 0 0), (6, .p (.int .i64 (i : Int)))]) [.row [[.p (.int .i64 k), .p (.int .i64 n), .p (.str s), .p (.sl (Ac is)), .p (.sl (Aa ns))]], .row [[.p (.int .i64 kp), .p (.int .i64 np), .p (.str sp), .p (.sl (Ac isp)), .p (.sl (Aa nsp))]]] (ns.zip nsp) (fun p => p.1 == p.2)
  (rF := (.ret, tl 0 81 [(4, .p (.bool false))], [.row [[.p (.int .i64 k), .p (.int .i64 n), .p (.str s), .p (.sl (Ac is)), .p (.sl (Aa ns))]], .row [[.p (.int .i64 kp), .p (.int .i64 np), .p (.str sp), .p (.sl (Ac isp)), .p (.sl (Aa nsp))]]]))
  (rT := (.exit 2, tl 0 81 [], [.row [[.p (.int .i64 k), .p (.int .i64 n), .p (.str s), .p (.sl (Ac is)), .p (.sl (Aa ns))]], .row [[.p (.int .i64 kp), .p (.int .i64 np), .p (.str sp), .p (.sl (Ac isp)), .p (.sl (Aa nsp))]]]))
  (by
    rintro i ⟨x, y⟩ hx hp
    rw [List.getElem?_zip_eq_some] at hx
    obtain ⟨hx, hy⟩ := hx
    obtain ⟨hi, rfl⟩ := List.getElem?_eq_some_iff.1 hx
    obtain ⟨hj, rfl⟩ := List.getElem?_eq_some_iff.1 hy
    have e : ns.getD i [] = ns[i] := by rw [List.getD, List.getElem?_eq_getElem hi]; rfl
    have e2 : nsp.getD i [] = nsp[i] := by rw [List.getD, List.getElem?_eq_getElem hj]; rfl
    exact X9 (by rw [Ao]; exact dlt hi) hi hj (by rw [e, e2]; exact hp))
  (by
    rintro i ⟨x, y⟩ r hx hp hr
    rw [List.getElem?_zip_eq_some] at hx
    obtain ⟨hx, hy⟩ := hx
    obtain ⟨hi, rfl⟩ := List.getElem?_eq_some_iff.1 hx
    obtain ⟨hj, rfl⟩ := List.getElem?_eq_some_iff.1 hy
    have e : ns.getD i [] = ns[i] := by rw [List.getD, List.getElem?_eq_getElem hi]; rfl
    have e2 : nsp.getD i [] = nsp[i] := by rw [List.getD, List.getElem?_eq_getElem hj]; rfl
    exact X8 (by rw [Ao]; exact dlt hi) hi hj (by rw [e, e2]; exact hp) (by rw [nx (by omega)]; exact hr))
  (by
    have e : (ns.zip nsp).length = ns.length := by simp; omega
    rw [e]
    exact rSamN_n (by rw [Ao]; exact B4))
 have z0 : ((List.length (Ac is) : Nat) : Int) = ((List.length (Ac isp) : Nat) : Int) → is.length = isp.length := by rw [Ap, Ap]; omega
 have z1 : ((List.length (Aa ns) : Nat) : Int) = ((List.length (Aa nsp) : Nat) : Int) → ns.length = nsp.length := by rw [Ao, Ao]; omega
 have h := @rSam0 k n s is ns kp np sp isp nsp (fun _ _ _ hq _ hc => by have := l0 (z0 (eq_of_beq hq)); rw [Kv _ _ (z0 (eq_of_beq hq)), hc] at this; exact this) (fun _ _ _ _ hq _ hc => by have := l1 (z1 (eq_of_beq hq)); rw [Kw _ _ (z1 (eq_of_beq hq)), hc] at this; exact this) (fun _ _ _ _ hq _ hc => by have := l1 (z1 (eq_of_beq hq)); rw [Kw _ _ (z1 (eq_of_beq hq)), hc] at this; exact this) (fun _ _ _ hq _ hc => by have := l0 (z0 (eq_of_beq hq)); rw [Kv _ _ (z0 (eq_of_beq hq)), hc] at this; exact this)
 refine ifE h ?_
 simp only [E5]
 by_cases c1 : k = kp
 ·by_cases c2 : n = np
  ·by_cases c3 : s = sp
   ·by_cases c4 : is.length = isp.length
    ·by_cases c5 : ns.length = nsp.length
     ·cases hc : Dz is isp <;> cases hd : (ns == nsp) <;> simp [c1, c2, c3, c4, c5, hc, hd, Ap, Ao]
     ·have : (ns == nsp) = false := by rw [beq_eq_false_iff_ne]; intro h; exact c5 (by rw [h])
      have c5' : ¬ ((ns.length : Int) = nsp.length) := by omega
      simp [c1, c2, c3, c4, c5', Ap, Ao, this]
    ·have : Dz is isp = false := by
      cases hc : Dz is isp with
      | false => rfl
      | true => exact absurd (Oy _ _ hc) c4
     have c4' : ¬ ((is.length : Int) = isp.length) := by omega
     simp [c1, c2, c3, c4', Ap, Ao, this]
   ·simp [c1, c2, c3]
  ·simp [c1, c2]
 ·simp [c1]
theorem Yb {ns : List (List UInt8)} (h : ns.length * 16 ≤ 140737488355328) : Runs lp 56 [.p (.sl (Aa ns))] [] (.p (.sl (Aa ns)), []) := by
 cases ns with
 | nil => exact ⟨20, by kernel_rfl⟩
 | cons x r =>
  have q : OpW [] (.append false 1 16 (.const (.tight [])) (.const (.p (.sl (Aa (x :: r)))))) (.sl ([] ++ Aa (x :: r)) 0 ([] ++ Aa (x :: r)).length) [.spare 1 ([] ++ Aa (x :: r)).length] :=
   E4 (size := 1) (bytes := 16) (E := []) (X := Aa (x :: r)) rfl rfl (Li _) (by simp [Aa]) (by rw [Ao]; simpa using h) (by rw [Ao]; simp at h ⊢; omega) (by decide)
  exact C9 (N := 100) (os := [(6, oO q)]) (ps := [_]) (by kernel_rfl) ⟨q, trivial⟩
end Go.Proofs.YtegboccilfofmaaGreat

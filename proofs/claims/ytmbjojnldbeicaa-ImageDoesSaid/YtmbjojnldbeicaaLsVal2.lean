import Derived.Test.YtmbjojnldbeicaaLsVal3W
set_option linter.unusedVariables false
set_option linter.unusedSimpArgs false
set_option maxRecDepth 100000
set_option linter.unusedSimpArgs false
namespace Go.Proofs.Ytmbjojnldbeicaa
open Go Go.LS
theorem Jj : ∀ v, 1 ≤ Bg v := by
 refine Val.ind fun k n s is ns ih => ?_
 rw [Bg]
 cases is with
 | nil => simp [Cc]
 | cons v r => have := ih v (List.mem_cons_self ..); rw [Cc]; omega
theorem Ey (l : List Val) : 0 ≤ Cc l := by
 cases l with
 | nil => simp [Cc]
 | cons v r => have := Jj v; rw [Cc]; omega
theorem Fz : ∀ {l : List Val} {v : Val}, v ∈ l → Bg v ≤ Cc l
 | x :: r, v, h => by
  rw [Cc]
  rcases List.mem_cons.1 h with rfl | h
  ·omega
  ·have := Fz h; omega
theorem Oa (l : List Val) : ∀ m, 0 ≤ m → l.foldl (fun m x => if Bg x > m then Bg x else m) m = max m (Cc l) := by
 induction l with
 | nil => intro m h; simp [Cc]; omega
 | cons v r ih =>
  intro m h
  have := Jj v
  simp only [List.foldl_cons, Cc]
  rw [ih _ (by split <;> omega)]
  split <;> omega
theorem vDepth : ∀ v, okV v → Bg v ≤ 1000000 → Runs lp 53 [Es v] [] (.p (.int .i64 (Bg v)), []) := by
 refine Val.ind fun k n s is ns ih hok hd => ?_
 obtain ⟨_, _, _, hil, hnl, hns, his⟩ := Dv hok
 have hdl : Cc is + 1 ≤ 1000000 := by rw [Bg] at hd; exact hd
 have l := D2 (lp := lp) (k := 0) (L := Ae R1 0) (fun i (m : Int) => tl 0 20 [(3, .p (.int .i64 m)), (7, .p (.sl (Ad is))), (8, .p (.int .i64 ((List.length (Ad is) : Nat) : Int))), (9, .p (.int .i64 (i : Int)))]) (fun _ _ => []) is
  (fun m x => if Bg x > m then Bg x else m) (fun m => (.exit 0, tl 0 20 [(3, .p (.int .i64 m))], [])) (fun _ _ => True)
  (by
    intro i m x r hx _
    obtain ⟨ke, ne, se, ise, nse⟩ := x
    have hi := (List.getElem?_eq_some_iff.1 hx).1
    have hm := List.mem_of_getElem? hx
    have hdx := Fz hm
    exact ⟨trivial, fun hr => vDepR_y ke ne se ise nse (by rw [A6]; exact dlt hi) hx (ih _ hm (his _ hm) (by omega)) (by rw [nx (by omega)]; exact hr)⟩)
  (fun m _ => vDepR_n (by rw [A6]; exact dlt_n)) 0 trivial
 rw [Oa _ _ (Int.le_refl _)] at l
 have hm : max 0 (Cc is) = Cc is := by have := Ey is; omega
 rw [hm] at l
 have h := @vDep0 k n s is ns l
 refine ifE h ?_
 have := Ey is
 rw [A9 (by omega) (by omega), Bg]
theorem rDepth : ∀ v, okV v → Bg v ≤ 1000000 → Runs lp 50 [Es v] [] (.p (.int .i64 (Bg v)), []) := by
 refine Val.ind fun k n s is ns ih hok hd => ?_
 obtain ⟨_, _, _, hil, hnl, hns, his⟩ := Dv hok
 have hdl : Cc is + 1 ≤ 1000000 := by rw [Bg] at hd; exact hd
 have l := D2 (lp := lp) (k := 0) (L := Ae Ow 0) (fun i (m : Int) => tl 0 25 [(1, .ptr 0 0 0), (3, .p (.int .i64 m)), (4, .p (.int .i64 (i : Int)))]) (fun _ _ => [.row [[.p (.int .i64 k), .p (.int .i64 n), .p (.str s), .p (.sl (Ad is)), .p (.sl (Ak ns))]]]) is
  (fun m x => if Bg x > m then Bg x else m) (fun m => (.exit 0, tl 0 25 [(3, .p (.int .i64 m))], [.row [[.p (.int .i64 k), .p (.int .i64 n), .p (.str s), .p (.sl (Ad is)), .p (.sl (Ak ns))]]])) (fun _ _ => True)
  (by
    intro i m x r hx _
    obtain ⟨ke, ne, se, ise, nse⟩ := x
    have hi := (List.getElem?_eq_some_iff.1 hx).1
    have hm := List.mem_of_getElem? hx
    have hdx := Fz hm
    refine ⟨trivial, fun hr => ?_⟩
    by_cases hgt : Bg (.mk ke ne se ise nse) > m
    ·rw [if_pos hgt] at hr
     exact rDepR_yy ke ne se ise nse (by rw [A6]; exact dlt hi) hx (ih _ hm (his _ hm) (by omega)) (decide_eq_true hgt) (by rw [nx (by omega)]; exact hr)
    ·rw [if_neg hgt] at hr
     exact rDepR_yn ke ne se ise nse (by rw [A6]; exact dlt hi) hx (ih _ hm (his _ hm) (by omega)) (decide_eq_false hgt) (by rw [nx (by omega)]; exact hr))
  (fun m _ => rDepR_n (by rw [A6]; exact dlt_n)) 0 trivial
 rw [Oa _ _ (Int.le_refl _)] at l
 have hm : max 0 (Cc is) = Cc is := by have := Ey is; omega
 rw [hm] at l
 have h := @rDep0 k n s is ns l
 refine ifE h ?_
 have := Ey is
 rw [A9 (by omega) (by omega), Bg]
theorem W1 {j : Nat} (h : j ≤ 4611686018427387904) : Runs lp 75 [.p (.int .i64 (j : Int))] [] (.p (.int .i64 (C8 j)), []) :=
 ifE (vCount0 (Dz h)) (by rw [Ds, C8])
theorem Ut {s : List UInt8} (h : s.length ≤ 140737488355328) : Runs lp 74 [.p (.str s)] [] (.p (.int .i64 (IntKind.wrap .i64 (Cs s))), []) :=
 ifE (vText0 (W1 (by omega))) (by rw [Cs, C8])
theorem Pn (l : List Val) : ∀ m, l.foldl (fun m x => IntKind.wrap .i64 (m + B8 x)) (IntKind.wrap .i64 m) = IntKind.wrap .i64 (m + Co l) := by
 induction l with
 | nil => intro m; simp [Co]
 | cons v r ih =>
  intro m
  simp only [List.foldl_cons, Co]
  rw [show IntKind.wrap .i64 (IntKind.wrap .i64 m + B8 v) = IntKind.wrap .i64 (m + Ck v) by rw [B8, Gr, H9], ih, Int.add_assoc]
theorem Yf (l : List (List UInt8)) : ∀ m, l.foldl (fun m x => IntKind.wrap .i64 (m + IntKind.wrap .i64 (Cs x))) (IntKind.wrap .i64 m) = IntKind.wrap .i64 (m + (l.map Cs).sum) := by
 induction l with
 | nil => intro m; simp
 | cons v r ih =>
  intro m
  simp only [List.foldl_cons, List.map_cons, List.sum_cons]
  rw [Gr, H9, ih, Int.add_assoc]
theorem Ia {k n : Int} {s : List UInt8} {is : List Val} {ns : List (List UInt8)} (h : Ce (.mk k n s is ns) = true) : (∀ v ∈ is, Ce v = true) ∧ Ec k n s is.length ns = true := by
 simp only [Ce, Bool.and_eq_true, N7, List.all_eq_true] at h
 exact ⟨h.1.1, h.2⟩
theorem Ob {k n : Int} {s : List UInt8} {l : Nat} {ns : List (List UInt8)} (h : Ec k n s l ns = true) :
  (k = 1 ∧ l = 0 ∧ ns = []) ∨ (k = 2 ∧ l = 0 ∧ ns = []) ∨ (k = 3 ∧ l = 0 ∧ ns = []) ∨ (k = 4 ∧ l = 0 ∧ ns = []) ∨ (k = 5 ∧ l = 0 ∧ ns = []) ∨ (k = 6 ∧ ns = []) ∨ (k = 7 ∧ ns.length = l) := by
 unfold Ec at h
 by_cases h1 : k = 1
 ·subst h1; simp at h; simp [h]
 by_cases h2 : k = 2
 ·subst h2; simp at h; simp [h]
 by_cases h3 : k = 3
 ·subst h3; simp at h; simp [h]
 by_cases h4 : k = 4
 ·subst h4; simp at h; simp [h]
 by_cases h5 : k = 5
 ·subst h5; simp at h; simp [h]
 by_cases h6 : k = 6
 ·subst h6; simp at h; simp [h]
 by_cases h7 : k = 7
 ·subst h7; simp at h; simp [h]
 simp [h1, h2, h3, h4, h5, h6, h7] at h
theorem vSize : ∀ v, okV v → Ce v = true → Runs lp 54 [Es v] [] (.p (.int .i64 (B8 v)), []) := by
 refine Val.ind fun k n s is ns ih hok hmay => ?_
 obtain ⟨_, hn, hs, hil, hnl, hns, his⟩ := Dv hok
 obtain ⟨hm1, hsh⟩ := Ia hmay
 have l0 := D2 (lp := lp) (k := 0) (L := Ae Ld 0) (fun i (m : Int) => tl 0 58 [(1, .ptr 0 0 0), (3, .p (.int .i64 m)), (34, .p (.sl (Ad is))), (35, .p (.int .i64 ((List.length (Ad is) : Nat) : Int))), (36, .p (.int .i64 (i : Int)))]) (fun _ _ => [.row [[.p (.int .i64 k), .p (.int .i64 n), .p (.str s), .p (.sl (Ad is)), .p (.sl (Ak ns))]]]) is
  (fun m x => IntKind.wrap .i64 (m + B8 x)) (fun m => (.exit 1, tl 0 58 [(1, .ptr 0 0 0), (3, .p (.int .i64 m))], [.row [[.p (.int .i64 k), .p (.int .i64 n), .p (.str s), .p (.sl (Ad is)), .p (.sl (Ak ns))]]])) (fun _ _ => True)
  (by
    intro i m x r hx _
    obtain ⟨ke, ne, se, ise, nse⟩ := x
    have hi := (List.getElem?_eq_some_iff.1 hx).1
    have hm := List.mem_of_getElem? hx
    exact ⟨trivial, fun hr => vSizI_y ke ne se ise nse (by rw [A6]; exact dlt hi) hx (ih _ hm (his _ hm) (hm1 _ hm)) (by rw [nx (by omega)]; exact hr)⟩)
  (fun m _ => vSizI_n (by rw [A6]; exact dlt_n)) (IntKind.wrap .i64 (1 + C8 is.length)) trivial
 have l1 := fun m0 => D2 (lp := lp) (k := 0) (L := Ae Ld 1) (fun i (m : Int) => tl 0 58 [(3, .p (.int .i64 m)), (46, .p (.sl (Ak ns))), (47, .p (.int .i64 ((List.length (Ak ns) : Nat) : Int))), (48, .p (.int .i64 (i : Int)))]) (fun _ _ => []) ns
  (fun m x => IntKind.wrap .i64 (m + IntKind.wrap .i64 (Cs x))) (fun m => (.exit 3, tl 0 58 [(3, .p (.int .i64 m))], [])) (fun _ _ => True)
  (by
    intro i m x r hx _
    obtain ⟨hi, rfl⟩ := List.getElem?_eq_some_iff.1 hx
    have e : ns.getD i [] = ns[i] := by rw [List.getD, List.getElem?_eq_getElem hi]; rfl
    refine ⟨trivial, fun hr => ?_⟩
    have := vSizN_y (ns := ns) (i := i) (m := m) (r := r) (by rw [Bl]; exact dlt hi) hi (Ut (by rw [e]; have := hns _ (List.getElem_mem hi); omega)) (by rw [nx (by omega), e]; exact hr)
    exact this)
  (fun m _ => vSizN_n (by rw [Bl]; exact dlt_n)) m0 trivial
 rw [Pn] at l0
 have hz : zz n = zzN n := rfl
 have h := @vSiz0 k n s is ns (IntKind.wrap .i64 (1 + C8 is.length + Co is)) (IntKind.wrap .i64 (1 + C8 is.length + Co is + (ns.map Cs).sum))
  (fun _ _ _ => Sd hn.1 hn.2) (fun _ _ _ _ => Ut (by omega)) (fun _ _ _ _ _ => Ut (by omega)) (fun _ _ _ _ _ => by rw [A6]; exact W1 (by omega))
  (fun _ _ _ _ _ => by rw [A6] at l0 ⊢; exact l0) (fun _ _ _ _ _ => by have := l1 (IntKind.wrap .i64 (1 + C8 is.length + Co is)); rw [Yf] at this; exact this)
 refine ifE h ?_
 rcases Ob hsh with ⟨rfl, h1, h2⟩ | ⟨rfl, h1, h2⟩ | ⟨rfl, h1, h2⟩ | ⟨rfl, h1, h2⟩ | ⟨rfl, h1, h2⟩ | ⟨rfl, h2⟩ | ⟨rfl, h2⟩
 ·simp [B8, Ck, A9]
 ·simp [B8, Ck, A9]
 ·simp [B8, Ck, Ds, hz]
 ·simp [B8, Ck, Gr]
 ·simp [B8, Ck, Gr]
 ·subst h2; simp [B8, Ck]
 ·simp [B8, Ck]
theorem Uu (is : List Val) (ns : List (List UInt8)) : ∀ (l : List (Val × List UInt8)) m, l.foldl (fun m x => IntKind.wrap .i64 (IntKind.wrap .i64 (m + B8 x.1) + Cs x.2)) (IntKind.wrap .i64 m) = IntKind.wrap .i64 (m + Co (l.map (·.1)) + ((l.map (·.2)).map Cs).sum) := by
 intro l
 induction l with
 | nil => intro m; simp [Co]
 | cons v r ih =>
  intro m
  simp only [List.foldl_cons, List.map_cons, List.sum_cons, Co]
  rw [show IntKind.wrap .i64 (IntKind.wrap .i64 (IntKind.wrap .i64 m + B8 v.1) + Cs v.2) = IntKind.wrap .i64 (m + Ck v.1 + Cs v.2) by rw [B8, Gr, H9, Int.add_assoc, H9, ← Int.add_assoc], ih]
  congr 1
  omega
theorem rSize : ∀ v, okV v → Ce v = true → Runs lp 51 [Es v] [] (.p (.int .i64 (B8 v)), []) := by
 refine Val.ind fun k n s is ns ih hok hmay => ?_
 obtain ⟨_, hn, hs, hil, hnl, hns, his⟩ := Dv hok
 obtain ⟨hm1, hsh⟩ := Ia hmay
 have hz : zz n = zzN n := rfl
 have la := fun (hk : (k == 7) = false) m0 => D2 (lp := lp) (k := 0) (L := Ae Lc 0) (fun i (m : Int) => tl 0 62 [(1, .ptr 0 0 0), (3, .p (.int .i64 m)), (4, .p (.int .i64 (i : Int)))]) (fun _ _ => [.row [[.p (.int .i64 k), .p (.int .i64 n), .p (.str s), .p (.sl (Ad is)), .p (.sl (Ak ns))]]]) is
  (fun m x => IntKind.wrap .i64 (m + B8 x)) (fun m => (.exit 1, tl 0 62 [(3, .p (.int .i64 m))], [.row [[.p (.int .i64 k), .p (.int .i64 n), .p (.str s), .p (.sl (Ad is)), .p (.sl (Ak ns))]]])) (fun _ _ => True)
  (by
    intro i m x r hx _
    obtain ⟨ke, ne, se, ise, nse⟩ := x
    have hi := (List.getElem?_eq_some_iff.1 hx).1
    have hm := List.mem_of_getElem? hx
    exact ⟨trivial, fun hr => rSizR_yn ke ne se ise nse (by rw [A6]; exact dlt hi) hx (ih _ hm (his _ hm) (hm1 _ hm)) hk (by rw [nx (by omega)]; exact hr)⟩)
  (fun m _ => W0 (by rw [A6]; exact dlt_n)) m0 trivial
 have lb := fun (hk : (k == 7) = true) (hnn : ns.length = is.length) m0 => D2 (lp := lp) (k := 0) (L := Ae Lc 0) (fun i (m : Int) => tl 0 62 [(1, .ptr 0 0 0), (3, .p (.int .i64 m)), (4, .p (.int .i64 (i : Int)))]) (fun _ _ => [.row [[.p (.int .i64 k), .p (.int .i64 n), .p (.str s), .p (.sl (Ad is)), .p (.sl (Ak ns))]]]) (is.zip ns)
  (fun m x => IntKind.wrap .i64 (IntKind.wrap .i64 (m + B8 x.1) + Cs x.2)) (fun m => (.exit 1, tl 0 62 [(3, .p (.int .i64 m))], [.row [[.p (.int .i64 k), .p (.int .i64 n), .p (.str s), .p (.sl (Ad is)), .p (.sl (Ak ns))]]])) (fun _ _ => True)
  (by
    rintro i m ⟨x, y⟩ r hx _
    obtain ⟨ke, ne, se, ise, nse⟩ := x
    rw [List.getElem?_zip_eq_some] at hx
    obtain ⟨hx, hy⟩ := hx
    have hi := (List.getElem?_eq_some_iff.1 hx).1
    have hm := List.mem_of_getElem? hx
    obtain ⟨hj, rfl⟩ := List.getElem?_eq_some_iff.1 hy
    have e : ns.getD i [] = ns[i] := by rw [List.getD, List.getElem?_eq_getElem hj]; rfl
    refine ⟨trivial, fun hr => ?_⟩
    have := rSizR_yy (k := k) (n := n) (s := s) (is := is) (ns := ns) (i := i) (m := m) (r := r) ke ne se ise nse (by rw [A6]; exact dlt hi) hx (ih _ hm (his _ hm) (hm1 _ hm)) hk hj (Je (by rw [e]; simpa [reachBytes] using hns _ (List.getElem_mem hj)))
     (by
       rw [nx (by omega), Ds, e]
       simp only [Cs] at hr
       rw [List.length_append]
       simpa using hr)
    exact this)
  (fun m _ => by
    have e : (is.zip ns).length = is.length := by simp; omega
    rw [e]
    exact W0 (by rw [A6]; exact dlt_n)) m0 trivial
 have hv : ∀ j : Nat, IntKind.wrap .i64 (1 + ((Ab j).length : Int)) = IntKind.wrap .i64 (1 + C8 j) := fun j => rfl
 have h := @rSiz0 k n s is ns (B8 (.mk k n s is ns)) (fun _ _ => X6 hn.1 hn.2) (fun _ _ _ => Je (by simpa [reachBytes] using hs)) (fun _ _ _ _ => Je (by simpa [reachBytes] using hs)) (fun _ _ _ _ _ => (by rw [A6]; exact H8 (by omega))) (fun _ _ _ _ _ => (by have h6 : k = 6 := eq_of_beq (by assumption); subst h6; have hns0 : ns = [] := (by rcases Ob hsh with h | h | h | h | h | h | h <;> simp_all); have := la rfl (IntKind.wrap .i64 (1 + C8 is.length)); rw [Pn] at this; rw [A6, Ds]; simpa [B8, Ck, C8] using this)) (fun _ _ _ _ _ _ => (by rw [A6]; exact H8 (by omega))) (fun _ _ _ _ _ _ => (by have h7 : k = 7 := eq_of_beq (by assumption); subst h7; have hnn : ns.length = is.length := (by rcases Ob hsh with h | h | h | h | h | h | h <;> simp_all); have := lb rfl hnn (IntKind.wrap .i64 (1 + C8 is.length)); rw [Uu is ns, List.map_fst_zip (by omega), List.map_snd_zip (by omega)] at this; rw [A6, Ds]; simpa [B8, Ck, C8] using this)) (fun _ _ _ _ _ _ => (by have h0 : is = [] ∧ k = 1 := (by rcases Ob hsh with h | h | h | h | h | h | h <;> simp_all); obtain ⟨h0, h1⟩ := h0; subst h0; subst h1; have := la rfl 1; simpa [B8, Ck, A9] using this))
 refine ifE h ?_
 rcases Ob hsh with ⟨rfl, h1, h2⟩ | ⟨rfl, h1, h2⟩ | ⟨rfl, h1, h2⟩ | ⟨rfl, h1, h2⟩ | ⟨rfl, h1, h2⟩ | ⟨rfl, h2⟩ | ⟨rfl, h2⟩
 ·simp
 ·simp [B8, Ck, A9]
 ·simp [B8, Ck, Ds, hz]
 ·simp [B8, Ck, Ds, Cs]
 ·simp [B8, Ck, Ds, Cs]
 ·simp
 ·simp
theorem Uv (d : Int) {ρ : Type} (rd : Int → ρ) : ∀ (l : List Val) m, Gp (fun m x => if m < 65536 then (.inr (IntKind.wrap .i64 (m + Df d x)) : ρ ⊕ Int) else .inl (rd m)) rd m l = rd (Dt d m l) := by
 intro l
 induction l with
 | nil => intro m; simp [Gp, Dt]
 | cons v r ih =>
  intro m
  simp only [Gp, Dt]
  by_cases h : m < 65536
  ·simp only [h, if_true]; exact ih _
  ·simp only [h, if_false]
theorem rNodes : ∀ v, okV v → ∀ d, Runs lp 31 [Es v, .p (.int .i64 d)] [] (.p (.int .i64 (Df d v)), []) := by
 refine Val.ind fun k n s is ns ih hok d => ?_
 obtain ⟨_, hn, hs, hil, hnl, hns, his⟩ := Dv hok
 have l := Ip (lp := lp) (k := 0) (L := Ae Qb 0) (fun i (m : Int) => tl 0 35 [(1, .p (.int .i64 d)), (2, .ptr 0 0 0), (5, .p (.int .i64 m)), (6, .p (.int .i64 (i : Int)))]) (fun _ _ => [.row [[.p (.int .i64 k), .p (.int .i64 n), .p (.str s), .p (.sl (Ad is)), .p (.sl (Ak ns))]]]) is
  (fun m x => if m < 65536 then .inr (IntKind.wrap .i64 (m + Df (IntKind.wrap .i64 (d + 1)) x)) else .inl (.exit 0, tl 0 35 [(5, .p (.int .i64 m))], [.row [[.p (.int .i64 k), .p (.int .i64 n), .p (.str s), .p (.sl (Ad is)), .p (.sl (Ak ns))]]]))
  (fun m => (.exit 0, tl 0 35 [(5, .p (.int .i64 m))], [.row [[.p (.int .i64 k), .p (.int .i64 n), .p (.str s), .p (.sl (Ad is)), .p (.sl (Ak ns))]]])) (fun _ _ => True)
  (by
    intro i m x hx _
    obtain ⟨ke, ne, se, ise, nse⟩ := x
    have hi := (List.getElem?_eq_some_iff.1 hx).1
    have hm := List.mem_of_getElem? hx
    by_cases h : m < 65536
    ·simp only [h, if_true]
     refine ⟨fun r h => (by cases h), fun s' hs' => ?_⟩
     cases hs'
     exact ⟨trivial, fun r hr => rNodR_yy ke ne se ise nse (by rw [A6]; exact dlt hi) (decide_eq_true h) hx (ih _ hm (his _ hm) _) (by rw [nx (by omega)]; exact hr)⟩
    ·simp only [h, if_false]
     refine ⟨fun r hr => ?_, fun s' h => (by cases h)⟩
     cases hr
     exact rNodR_yn (by rw [A6]; exact dlt hi) (decide_eq_false h))
  (fun m _ => rNodR_n (by rw [A6]; exact dlt_n)) (IntKind.wrap .i64 (1 + (ns.length : Int))) trivial
 rw [Uv (IntKind.wrap .i64 (d + 1)) (fun m => ((.exit 0, tl 0 35 [(5, .p (.int .i64 m))], [.row [[.p (.int .i64 k), .p (.int .i64 n), .p (.str s), .p (.sl (Ad is)), .p (.sl (Ak ns))]]]) : Dj × List LV × List LObj))] at l
 have h := @rNod0 k n s is ns d (Dt (IntKind.wrap .i64 (d + 1)) (IntKind.wrap .i64 (1 + (ns.length : Int))) is) (fun _ => by rw [Bl]; exact l)
 refine ifE h ?_
 rw [Df]
 by_cases hd : d > 40
 ·simp [hd]
 ·simp [hd]
theorem Cp (v : Val) (hok : okV v) : Runs lp 11 [Es v] [] (.p (.bool (Bc v)), []) := by
 obtain ⟨k, n, s, is, ns⟩ := v
 exact rLarge0 (rNodes _ hok 0)
theorem Uw (d : Int) : ∀ (l : List Val) m, 65536 ≤ m → Dt d m l = m := by
 intro l m h
 cases l with
 | nil => rfl
 | cons v r => rw [Dt, if_neg (by omega)]
theorem Kn : ∀ v, okV v → ∀ d : Int, 0 ≤ d → d ≤ 1000 → 1 ≤ Df d v ∧ Df d v ≤ 10000000000000 + 65536 * (1001 - d) ∧ (Df d v < 65536 → Bg v + d ≤ 41) := by
 refine Val.ind fun k n s is ns ih hok d h0 h1 => ?_
 obtain ⟨_, hn, hs, hil, hnl, hns, his⟩ := Dv hok
 rw [Df, Bg]
 by_cases hd : d > 40
 ·rw [if_pos hd]; omega
 ·rw [if_neg hd, A9 (by omega) (by omega), A9 (by omega) (by omega)]
  have key : ∀ l, (∀ v ∈ l, v ∈ is) → ∀ m, 1 ≤ m → m ≤ 10000000000000 + 65536 * (1001 - d) → 1 ≤ Dt (d + 1) m l ∧ m ≤ Dt (d + 1) m l ∧ Dt (d + 1) m l ≤ 10000000000000 + 65536 * (1001 - d) ∧ (Dt (d + 1) m l < 65536 → Cc l + (d + 1) ≤ 41) := by
   intro l
   induction l with
   | nil => intro _ m hm hm2; simp only [Dt, Cc]; exact ⟨hm, by omega, by omega, fun _ => by omega⟩
   | cons v r ihr =>
    intro hl m hm hm2
    have hv := hl v (List.mem_cons_self ..)
    obtain ⟨b1, b2, b3⟩ := ih v hv (his v hv) (d + 1) (by omega) (by omega)
    rw [Dt]
    by_cases hmm : m < 65536
    ·rw [if_pos hmm, A9 (by omega) (by omega)]
     by_cases hbig : 65536 ≤ m + Df (d + 1) v
     ·rw [Uw _ _ _ hbig]
      exact ⟨by omega, by omega, by omega, fun h => by omega⟩
     ·obtain ⟨c1, c2, c3, c4⟩ := ihr (fun w hw => hl w (List.mem_cons_of_mem _ hw)) (m + Df (d + 1) v) (by omega) (by omega)
      refine ⟨c1, by omega, by omega, fun h => ?_⟩
      have := b3 (by omega)
      have := c4 h
      rw [Cc]
      omega
    ·rw [if_neg hmm]
     exact ⟨hm, by omega, by omega, fun h => by omega⟩
  obtain ⟨c1, c2, c3, c4⟩ := key is (fun v h => h) (1 + (ns.length : Int)) (by omega) (by omega)
  exact ⟨c1, c3, fun h => by have := c4 h; omega⟩
theorem Sk {v : Val} (hok : okV v) (h : Bc v = false) : Bg v ≤ 41 := by
 simp only [Bc, decide_eq_false_iff_not] at h
 have := (Kn v hok 0 (by omega) (by omega)).2.2 (by omega)
 omega
theorem Lk : ∀ (l m : List Val), l.length = m.length → (l.zip m).all (fun p => Cz p.1 p.2) = Ep l m
 | [], [], _ => rfl
 | v :: r, w :: q, h => by simp only [List.zip_cons_cons, List.all_cons, Ep, Lk r q (by simpa using h)]
theorem Ll : ∀ (l m : List (List UInt8)), l.length = m.length → (l.zip m).all (fun p => p.1 == p.2) = (l == m)
 | [], [], _ => rfl
 | v :: r, w :: q, h => by
  simp only [List.zip_cons_cons, List.all_cons, Ll r q (by simpa using h)]
  rfl
theorem Po : ∀ (l m : List Val), Ep l m = true → l.length = m.length
 | [], [], _ => rfl
 | v :: r, w :: q, h => by simp only [Ep, Bool.and_eq_true] at h; simp [Po r q h.2]
 | [], _ :: _, h => by simp [Ep] at h
 | _ :: _, [], h => by simp [Ep] at h
theorem D0 : ∀ v, Cz v v = true := by
 refine Val.ind fun k n s is ns ih => ?_
 simp only [Cz, beq_self_eq_true, Bool.true_and, Bool.and_true]
 induction is with
 | nil => rfl
 | cons v r ihr => simp only [Ep, ih v (List.mem_cons_self ..), Bool.true_and]; exact ihr fun w hw => ih w (List.mem_cons_of_mem _ hw)
theorem rSame : ∀ v, okV v → ∀ w, okV w → Runs lp 28 [Es v, Es w] [] (.p (.bool (Cz v w)), []) := by
 refine Val.ind fun k n s is ns ih hok w hokw => ?_
 obtain ⟨kp, np, sp, isp, nsp⟩ := w
 obtain ⟨_, hn, hs, hil, hnl, hns, his⟩ := Dv hok
 obtain ⟨_, hnp, hsp, hilp, hnlp, hnsp, hisp⟩ := Dv hokw
 have l0 := fun (hl : is.length = isp.length) => Gq (lp := lp) (k := 0) (L := Ae H1 0) (fun i => tl 0 81 [(2, .ptr 0 0 0), (3, .ptr 1 0 0), (5, .p (.int .i64 (i : Int)))]) [.row [[.p (.int .i64 k), .p (.int .i64 n), .p (.str s), .p (.sl (Ad is)), .p (.sl (Ak ns))]], .row [[.p (.int .i64 kp), .p (.int .i64 np), .p (.str sp), .p (.sl (Ad isp)), .p (.sl (Ak nsp))]]] (is.zip isp) (fun p => Cz p.1 p.2)
  (rF := (.ret, tl 0 81 [(4, .p (.bool false))], [.row [[.p (.int .i64 k), .p (.int .i64 n), .p (.str s), .p (.sl (Ad is)), .p (.sl (Ak ns))]], .row [[.p (.int .i64 kp), .p (.int .i64 np), .p (.str sp), .p (.sl (Ad isp)), .p (.sl (Ak nsp))]]]))
  (rT := (.exit 0, tl 0 81 [(2, .ptr 0 0 0), (3, .ptr 1 0 0)], [.row [[.p (.int .i64 k), .p (.int .i64 n), .p (.str s), .p (.sl (Ad is)), .p (.sl (Ak ns))]], .row [[.p (.int .i64 kp), .p (.int .i64 np), .p (.str sp), .p (.sl (Ad isp)), .p (.sl (Ak nsp))]]]))
  (by
    rintro i ⟨x, y⟩ hx hp
    rw [List.getElem?_zip_eq_some] at hx
    obtain ⟨hx, hy⟩ := hx
    obtain ⟨ke, ne, se, ise, nse⟩ := x
    obtain ⟨kf, nf, sf, isf, nsf⟩ := y
    have hi := (List.getElem?_eq_some_iff.1 hx).1
    have hm := List.mem_of_getElem? hx
    have hm2 := List.mem_of_getElem? hy
    exact rSamI_yn ke ne se ise nse kf nf sf isf nsf (by rw [A6]; exact dlt hi) hx hy (ih _ hm (his _ hm) _ (hisp _ hm2)) hp)
  (by
    rintro i ⟨x, y⟩ r hx hp hr
    rw [List.getElem?_zip_eq_some] at hx
    obtain ⟨hx, hy⟩ := hx
    obtain ⟨ke, ne, se, ise, nse⟩ := x
    obtain ⟨kf, nf, sf, isf, nsf⟩ := y
    have hi := (List.getElem?_eq_some_iff.1 hx).1
    have hm := List.mem_of_getElem? hx
    have hm2 := List.mem_of_getElem? hy
    exact rSamI_yy ke ne se ise nse kf nf sf isf nsf (by rw [A6]; exact dlt hi) hx hy (ih _ hm (his _ hm) _ (hisp _ hm2)) hp (by rw [nx (by omega)]; exact hr))
  (by
    have e : (is.zip isp).length = is.length := by simp; omega
    rw [e]
    exact rSamI_n (by rw [A6]; exact dlt_n))
 have l1 := fun (hl : ns.length = nsp.length) => Gq (lp := lp) (k := 0) (L := Ae H1 1) (fun i => tl 0 81 [(2, .ptr 0 0 0), (3, .ptr 1 0 0), (6, .p (.int .i64 (i : Int)))]) [.row [[.p (.int .i64 k), .p (.int .i64 n), .p (.str s), .p (.sl (Ad is)), .p (.sl (Ak ns))]], .row [[.p (.int .i64 kp), .p (.int .i64 np), .p (.str sp), .p (.sl (Ad isp)), .p (.sl (Ak nsp))]]] (ns.zip nsp) (fun p => p.1 == p.2)
  (rF := (.ret, tl 0 81 [(4, .p (.bool false))], [.row [[.p (.int .i64 k), .p (.int .i64 n), .p (.str s), .p (.sl (Ad is)), .p (.sl (Ak ns))]], .row [[.p (.int .i64 kp), .p (.int .i64 np), .p (.str sp), .p (.sl (Ad isp)), .p (.sl (Ak nsp))]]]))
  (rT := (.exit 2, tl 0 81 [], [.row [[.p (.int .i64 k), .p (.int .i64 n), .p (.str s), .p (.sl (Ad is)), .p (.sl (Ak ns))]], .row [[.p (.int .i64 kp), .p (.int .i64 np), .p (.str sp), .p (.sl (Ad isp)), .p (.sl (Ak nsp))]]]))
  (by
    rintro i ⟨x, y⟩ hx hp
    rw [List.getElem?_zip_eq_some] at hx
    obtain ⟨hx, hy⟩ := hx
    obtain ⟨hi, rfl⟩ := List.getElem?_eq_some_iff.1 hx
    obtain ⟨hj, rfl⟩ := List.getElem?_eq_some_iff.1 hy
    have e : ns.getD i [] = ns[i] := by rw [List.getD, List.getElem?_eq_getElem hi]; rfl
    have e2 : nsp.getD i [] = nsp[i] := by rw [List.getD, List.getElem?_eq_getElem hj]; rfl
    exact rSamN_yn (by rw [Bl]; exact dlt hi) hi hj (by rw [e, e2]; exact hp))
  (by
    rintro i ⟨x, y⟩ r hx hp hr
    rw [List.getElem?_zip_eq_some] at hx
    obtain ⟨hx, hy⟩ := hx
    obtain ⟨hi, rfl⟩ := List.getElem?_eq_some_iff.1 hx
    obtain ⟨hj, rfl⟩ := List.getElem?_eq_some_iff.1 hy
    have e : ns.getD i [] = ns[i] := by rw [List.getD, List.getElem?_eq_getElem hi]; rfl
    have e2 : nsp.getD i [] = nsp[i] := by rw [List.getD, List.getElem?_eq_getElem hj]; rfl
    exact rSamN_yy (by rw [Bl]; exact dlt hi) hi hj (by rw [e, e2]; exact hp) (by rw [nx (by omega)]; exact hr))
  (by
    have e : (ns.zip nsp).length = ns.length := by simp; omega
    rw [e]
    exact rSamN_n (by rw [Bl]; exact dlt_n))
 have z0 : ((List.length (Ad is) : Nat) : Int) = ((List.length (Ad isp) : Nat) : Int) → is.length = isp.length := by rw [A6, A6]; omega
 have z1 : ((List.length (Ak ns) : Nat) : Int) = ((List.length (Ak nsp) : Nat) : Int) → ns.length = nsp.length := by rw [Bl, Bl]; omega
 have h := @rSam0 k n s is ns kp np sp isp nsp (fun _ _ _ hq _ hc => by have := l0 (z0 (eq_of_beq hq)); rw [Lk _ _ (z0 (eq_of_beq hq)), hc] at this; exact this) (fun _ _ _ _ hq _ hc => by have := l1 (z1 (eq_of_beq hq)); rw [Ll _ _ (z1 (eq_of_beq hq)), hc] at this; exact this) (fun _ _ _ _ hq _ hc => by have := l1 (z1 (eq_of_beq hq)); rw [Ll _ _ (z1 (eq_of_beq hq)), hc] at this; exact this) (fun _ _ _ hq _ hc => by have := l0 (z0 (eq_of_beq hq)); rw [Lk _ _ (z0 (eq_of_beq hq)), hc] at this; exact this)
 refine ifE h ?_
 simp only [Cz]
 by_cases c1 : k = kp
 ·by_cases c2 : n = np
  ·by_cases c3 : s = sp
   ·by_cases c4 : is.length = isp.length
    ·by_cases c5 : ns.length = nsp.length
     ·cases hc : Ep is isp <;> cases hd : (ns == nsp) <;> simp [c1, c2, c3, c4, c5, hc, hd, A6, Bl]
     ·have : (ns == nsp) = false := by rw [beq_eq_false_iff_ne]; intro h; exact c5 (by rw [h])
      have c5' : ¬ ((ns.length : Int) = nsp.length) := by omega
      simp [c1, c2, c3, c4, c5', A6, Bl, this]
    ·have : Ep is isp = false := by
      cases hc : Ep is isp with
      | false => rfl
      | true => exact absurd (Po _ _ hc) c4
     have c4' : ¬ ((is.length : Int) = isp.length) := by omega
     simp [c1, c2, c3, c4', A6, Bl, this]
   ·simp [c1, c2, c3]
  ·simp [c1, c2]
 ·simp [c1]
theorem cloneN {ns : List (List UInt8)} (h : ns.length * 16 ≤ 140737488355328) : Runs lp 55 [.p (.sl (Ak ns))] [] (.p (.sl (Ak ns)), []) := by
 cases ns with
 | nil => exact ⟨20, by kernel_rfl⟩
 | cons x r =>
  have q : OpW [] (.append false 1 16 (.const (.tight [])) (.const (.p (.sl (Ak (x :: r)))))) (.sl ([] ++ Ak (x :: r)) 0 ([] ++ Ak (x :: r)).length) [.spare 1 ([] ++ Ak (x :: r)).length] :=
   Fy (size := 1) (bytes := 16) (E := []) (X := Ak (x :: r)) rfl rfl (Se _) (by simp [Ak]) (by rw [Bl]; simpa using h) (by rw [Bl]; simp at h ⊢; omega) (by decide)
  exact C0 (N := 100) (os := [(6, oO q)]) (ps := [_]) (by kernel_rfl) ⟨q, trivial⟩
theorem Ux : ∀ v, okV v → Runs lp 34 [Es v] [] (Es v, []) := by
 refine Val.ind fun k n s is ns ih hok => ?_
 obtain ⟨_, hn, hs, hil, hnl, hns, his⟩ := Dv hok
 cases is with
 | nil => exact @vClo0 k n s [] ns (cloneN hnl) (fun _ => vCloF_n (is := []) (i := 0) (by rfl)) (fun h => by simp at h)
 | cons v0 r =>
  generalize hxs : v0 :: r = is at *
  have l := D2 (lp := lp) (k := 0) (L := Ae Mw 0) (fun i (es : List Val) => tl 0 28 [(1, .ptr 0 0 0), (2, if i = 0 then .ptr 1 0 0 else .ptr 2 0 0), (13, .p (.sl (Ad is))), (14, .p (.int .i64 ((List.length (Ad is) : Nat) : Int))), (15, .p (.int .i64 (i : Int)))])
   (fun i es => if i = 0 then [.row [[.p (.int .i64 k), .p (.int .i64 n), .p (.str s), .tight [], .p (.sl (Ak ns))]], .row [[.p (.int .i64 0), .p (.int .i64 0), .p (.str []), .tight [], .tight []]]]
     else [.row [[.p (.int .i64 k), .p (.int .i64 n), .p (.str s), .sl (Ad es) 1 (List.length (Ad es)), .p (.sl (Ak ns))]], .spare 5 (List.length (Ad es)), .row [[.p (.int .i64 0), .p (.int .i64 0), .p (.str []), .tight [], .tight []]]]) is
   (fun es x => es ++ [x]) (fun es => (.exit 0, tl 0 28 [(1, .ptr 0 0 0), (2, .ptr 2 0 0)], [.row [[.p (.int .i64 k), .p (.int .i64 n), .p (.str s), .sl (Ad es) 1 (List.length (Ad es)), .p (.sl (Ak ns))]], .spare 5 (List.length (Ad es)), .row [[.p (.int .i64 0), .p (.int .i64 0), .p (.str []), .tight [], .tight []]]])) (fun i es => es = is.take i)
   (by
     rintro i es x r hx rfl
     obtain ⟨ke, ne, se, ise, nse⟩ := x
     have hi := (List.getElem?_eq_some_iff.1 hx).1
     have hm := List.mem_of_getElem? hx
     refine ⟨by rw [List.take_add_one, hx]; rfl, fun hr => ?_⟩
     rw [if_neg (by omega), if_neg (by omega)] at hr
     by_cases h0 : i = 0
     ·subst h0
      rw [if_pos rfl, if_pos rfl]
      exact vCloF_y ke ne se ise nse (by rw [A6]; exact dlt hi) hx (ih _ hm (his _ hm)) (by rw [nx (by omega)]; exact hr)
     ·rw [if_neg h0, if_neg h0]
      exact vCloR_y ke ne se ise nse (by rw [A6]; exact dlt hi) hx (ih _ hm (his _ hm)) (by rw [List.length_take]; omega) (by rw [nx (by omega)]; exact hr))
   (by
     rintro es rfl
     have hne0 : ¬ is.length = 0 := by rw [← hxs]; simp
     rw [if_neg hne0, if_neg hne0]
     exact vCloR_n (by rw [A6]; exact dlt_n)) [] rfl
  have hf : ∀ (l a : List Val), l.foldl (fun es x => es ++ [x]) a = a ++ l := by
   intro l
   induction l with
   | nil => intro a; simp
   | cons x r ihr => intro a; simp only [List.foldl_cons, ihr]; simp
  rw [hf, List.nil_append, if_pos rfl, if_pos rfl] at l
  have hne : decide (is = []) = false := by rw [← hxs]; simp
  have h := @vClo0 k n s is ns (cloneN hnl) (fun h => by rw [hne] at h; cases h) (fun _ => l)
  refine ifE h ?_
  rw [hne]; rfl
end Go.Proofs.Ytmbjojnldbeicaa

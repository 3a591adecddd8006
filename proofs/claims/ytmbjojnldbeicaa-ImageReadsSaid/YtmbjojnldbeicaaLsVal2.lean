import Derived.Test.YtmbjojnldbeicaaLsVal3W
set_option linter.unusedVariables false
set_option linter.unusedSimpArgs false
set_option maxRecDepth 100000
set_option linter.unusedSimpArgs false
namespace Go.Proofs.Ytmbjojnldbeicaa
open Go Go.LS
theorem Mn : ∀ v, 1 ≤ Bm v := by
 refine Val.ind fun k n s is ns ih => ?_
 rw [Bm]
 cases is with
 | nil => simp [B8]
 | cons v r => have := ih v (List.mem_cons_self ..); rw [B8]; omega
theorem D5 (l : List Val) : 0 ≤ B8 l := by
 cases l with
 | nil => simp [B8]
 | cons v r => have := Mn v; rw [B8]; omega
theorem Id : ∀ {l : List Val} {v : Val}, v ∈ l → Bm v ≤ B8 l
 | x :: r, v, h => by
  rw [B8]
  rcases List.mem_cons.1 h with rfl | h
  ·omega
  ·have := Id h; omega
theorem Mo (l : List Val) : ∀ m, 0 ≤ m → l.foldl (fun m x => if Bm x > m then Bm x else m) m = max m (B8 l) := by
 induction l with
 | nil => intro m h; simp [B8]; omega
 | cons v r ih =>
  intro m h
  have := Mn v
  simp only [List.foldl_cons, B8]
  rw [ih _ (by split <;> omega)]
  split <;> omega
theorem vDepth : ∀ v, okV v → Bm v ≤ 1000000 → Runs lp 53 [El v] [] (.p (.int .i64 (Bm v)), []) := by
 refine Val.ind fun k n s is ns ih hok hd => ?_
 obtain ⟨_, _, _, hil, hnl, hns, his⟩ := Em hok
 have hdl : B8 is + 1 ≤ 1000000 := by rw [Bm] at hd; exact hd
 have l := Dx (lp := lp) (k := 0) (L := Ag P2 0) (fun i (m : Int) => tl 0 20 [(3, .p (.int .i64 m)), (7, .p (.sl (Ad is))), (8, .p (.int .i64 ((List.length (Ad is) : Nat) : Int))), (9, .p (.int .i64 (i : Int)))]) (fun _ _ => []) is
  (fun m x => if Bm x > m then Bm x else m) (fun m => (.exit 0, tl 0 20 [(3, .p (.int .i64 m))], [])) (fun _ _ => True)
  (by
    intro i m x r hx _
    obtain ⟨ke, ne, se, ise, nse⟩ := x
    have hi := (List.getElem?_eq_some_iff.1 hx).1
    have hm := List.mem_of_getElem? hx
    have hdx := Id hm
    exact ⟨trivial, fun hr => Zg ke ne se ise nse (by rw [A3]; exact dlt hi) hx (ih _ hm (his _ hm) (by omega)) (by rw [nx (by omega)]; exact hr)⟩)
  (fun m _ => Zh (by rw [A3]; exact dlt_n)) 0 trivial
 rw [Mo _ _ (Int.le_refl _)] at l
 have hm : max 0 (B8 is) = B8 is := by have := D5 is; omega
 rw [hm] at l
 have h := @vDep0 k n s is ns l
 refine ifE h ?_
 have := D5 is
 rw [A6 (by omega) (by omega), Bm]
theorem rDepth : ∀ v, okV v → Bm v ≤ 1000000 → Runs lp 50 [El v] [] (.p (.int .i64 (Bm v)), []) := by
 refine Val.ind fun k n s is ns ih hok hd => ?_
 obtain ⟨_, _, _, hil, hnl, hns, his⟩ := Em hok
 have hdl : B8 is + 1 ≤ 1000000 := by rw [Bm] at hd; exact hd
 have l := Dx (lp := lp) (k := 0) (L := Ag M3 0) (fun i (m : Int) => tl 0 25 [(1, .ptr 0 0 0), (3, .p (.int .i64 m)), (4, .p (.int .i64 (i : Int)))]) (fun _ _ => [.row [[.p (.int .i64 k), .p (.int .i64 n), .p (.str s), .p (.sl (Ad is)), .p (.sl (Af ns))]]]) is
  (fun m x => if Bm x > m then Bm x else m) (fun m => (.exit 0, tl 0 25 [(3, .p (.int .i64 m))], [.row [[.p (.int .i64 k), .p (.int .i64 n), .p (.str s), .p (.sl (Ad is)), .p (.sl (Af ns))]]])) (fun _ _ => True)
  (by
    intro i m x r hx _
    obtain ⟨ke, ne, se, ise, nse⟩ := x
    have hi := (List.getElem?_eq_some_iff.1 hx).1
    have hm := List.mem_of_getElem? hx
    have hdx := Id hm
    refine ⟨trivial, fun hr => ?_⟩
    by_cases hgt : Bm (.mk ke ne se ise nse) > m
    ·rw [if_pos hgt] at hr
     exact Xf ke ne se ise nse (by rw [A3]; exact dlt hi) hx (ih _ hm (his _ hm) (by omega)) (decide_eq_true hgt) (by rw [nx (by omega)]; exact hr)
    ·rw [if_neg hgt] at hr
     exact Xg ke ne se ise nse (by rw [A3]; exact dlt hi) hx (ih _ hm (his _ hm) (by omega)) (decide_eq_false hgt) (by rw [nx (by omega)]; exact hr))
  (fun m _ => Zi (by rw [A3]; exact dlt_n)) 0 trivial
 rw [Mo _ _ (Int.le_refl _)] at l
 have hm : max 0 (B8 is) = B8 is := by have := D5 is; omega
 rw [hm] at l
 have h := @rDep0 k n s is ns l
 refine ifE h ?_
 have := D5 is
 rw [A6 (by omega) (by omega), Bm]
theorem Ts {j : Nat} (h : j ≤ 4611686018427387904) : Runs lp 75 [.p (.int .i64 (j : Int))] [] (.p (.int .i64 (Dt j)), []) :=
 ifE (Zj (R3 h)) (by rw [Cb, Dt])
theorem Sa {s : List UInt8} (h : s.length ≤ 140737488355328) : Runs lp 74 [.p (.str s)] [] (.p (.int .i64 (IntKind.wrap .i64 (C9 s))), []) :=
 ifE (vText0 (Ts (by omega))) (by rw [C9, Dt])
theorem Nw (l : List Val) : ∀ m, l.foldl (fun m x => IntKind.wrap .i64 (m + B2 x)) (IntKind.wrap .i64 m) = IntKind.wrap .i64 (m + Gc l) := by
 induction l with
 | nil => intro m; simp [Gc]
 | cons v r ih =>
  intro m
  simp only [List.foldl_cons, Gc]
  rw [show IntKind.wrap .i64 (IntKind.wrap .i64 m + B2 v) = IntKind.wrap .i64 (m + Du v) by rw [B2, Fr, G6], ih, Int.add_assoc]
theorem Ux (l : List (List UInt8)) : ∀ m, l.foldl (fun m x => IntKind.wrap .i64 (m + IntKind.wrap .i64 (C9 x))) (IntKind.wrap .i64 m) = IntKind.wrap .i64 (m + (l.map C9).sum) := by
 induction l with
 | nil => intro m; simp
 | cons v r ih =>
  intro m
  simp only [List.foldl_cons, List.map_cons, List.sum_cons]
  rw [Fr, G6, ih, Int.add_assoc]
theorem Qk {k n : Int} {s : List UInt8} {is : List Val} {ns : List (List UInt8)} (h : B7 (.mk k n s is ns) = true) : (∀ v ∈ is, B7 v = true) ∧ Dy k n s is.length ns = true := by
 simp only [B7, Bool.and_eq_true, Mk, List.all_eq_true] at h
 exact ⟨h.1.1, h.2⟩
theorem Ql {k n : Int} {s : List UInt8} {l : Nat} {ns : List (List UInt8)} (h : Dy k n s l ns = true) :
  (k = 1 ∧ l = 0 ∧ ns = []) ∨ (k = 2 ∧ l = 0 ∧ ns = []) ∨ (k = 3 ∧ l = 0 ∧ ns = []) ∨ (k = 4 ∧ l = 0 ∧ ns = []) ∨ (k = 5 ∧ l = 0 ∧ ns = []) ∨ (k = 6 ∧ ns = []) ∨ (k = 7 ∧ ns.length = l) := by
 unfold Dy at h
 by_cases h1 : k = 1
 ·subst h1; simp at h; simp [h]
 by_cases h2 : k = 2
 ·subst h2; simp at h; simp [h]
 by_cases h3 : k = 3
 ·subst h3; simp at h; simp [h]
 by_cases h4 : k = 4
 ·subst h4; simp at h; simp [h]
 by_cases h5 : k = 5
 ·subst h5; simp at h; simp [h]
 by_cases h6 : k = 6
 ·subst h6; simp at h; simp [h]
 by_cases h7 : k = 7
 ·subst h7; simp at h; simp [h]
 simp [h1, h2, h3, h4, h5, h6, h7] at h
theorem vSize : ∀ v, okV v → B7 v = true → Runs lp 54 [El v] [] (.p (.int .i64 (B2 v)), []) := by
 refine Val.ind fun k n s is ns ih hok hmay => ?_
 obtain ⟨_, hn, hs, hil, hnl, hns, his⟩ := Em hok
 obtain ⟨hm1, hsh⟩ := Qk hmay
 have l0 := Dx (lp := lp) (k := 0) (L := Ag J2 0) (fun i (m : Int) => tl 0 58 [(1, .ptr 0 0 0), (3, .p (.int .i64 m)), (34, .p (.sl (Ad is))), (35, .p (.int .i64 ((List.length (Ad is) : Nat) : Int))), (36, .p (.int .i64 (i : Int)))]) (fun _ _ => [.row [[.p (.int .i64 k), .p (.int .i64 n), .p (.str s), .p (.sl (Ad is)), .p (.sl (Af ns))]]]) is
  (fun m x => IntKind.wrap .i64 (m + B2 x)) (fun m => (.exit 1, tl 0 58 [(1, .ptr 0 0 0), (3, .p (.int .i64 m))], [.row [[.p (.int .i64 k), .p (.int .i64 n), .p (.str s), .p (.sl (Ad is)), .p (.sl (Af ns))]]])) (fun _ _ => True)
  (by
    intro i m x r hx _
    obtain ⟨ke, ne, se, ise, nse⟩ := x
    have hi := (List.getElem?_eq_some_iff.1 hx).1
    have hm := List.mem_of_getElem? hx
    exact ⟨trivial, fun hr => Zk ke ne se ise nse (by rw [A3]; exact dlt hi) hx (ih _ hm (his _ hm) (hm1 _ hm)) (by rw [nx (by omega)]; exact hr)⟩)
  (fun m _ => Zl (by rw [A3]; exact dlt_n)) (IntKind.wrap .i64 (1 + Dt is.length)) trivial
 have l1 := fun m0 => Dx (lp := lp) (k := 0) (L := Ag J2 1) (fun i (m : Int) => tl 0 58 [(3, .p (.int .i64 m)), (46, .p (.sl (Af ns))), (47, .p (.int .i64 ((List.length (Af ns) : Nat) : Int))), (48, .p (.int .i64 (i : Int)))]) (fun _ _ => []) ns
  (fun m x => IntKind.wrap .i64 (m + IntKind.wrap .i64 (C9 x))) (fun m => (.exit 3, tl 0 58 [(3, .p (.int .i64 m))], [])) (fun _ _ => True)
  (by
    intro i m x r hx _
    obtain ⟨hi, rfl⟩ := List.getElem?_eq_some_iff.1 hx
    have e : ns.getD i [] = ns[i] := by rw [List.getD, List.getElem?_eq_getElem hi]; rfl
    refine ⟨trivial, fun hr => ?_⟩
    have := Zm (ns := ns) (i := i) (m := m) (r := r) (by rw [Bj]; exact dlt hi) hi (Sa (by rw [e]; have := hns _ (List.getElem_mem hi); omega)) (by rw [nx (by omega), e]; exact hr)
    exact this)
  (fun m _ => Zn (by rw [Bj]; exact dlt_n)) m0 trivial
 rw [Nw] at l0
 have hz : zz n = zzN n := rfl
 have h := @vSiz0 k n s is ns (IntKind.wrap .i64 (1 + Dt is.length + Gc is)) (IntKind.wrap .i64 (1 + Dt is.length + Gc is + (ns.map C9).sum))
  (fun _ _ _ => Wz hn.1 hn.2) (fun _ _ _ _ => Sa (by omega)) (fun _ _ _ _ _ => Sa (by omega)) (fun _ _ _ _ _ => by rw [A3]; exact Ts (by omega))
  (fun _ _ _ _ _ => by rw [A3] at l0 ⊢; exact l0) (fun _ _ _ _ _ => by have := l1 (IntKind.wrap .i64 (1 + Dt is.length + Gc is)); rw [Ux] at this; exact this)
 refine ifE h ?_
 rcases Ql hsh with ⟨rfl, h1, h2⟩ | ⟨rfl, h1, h2⟩ | ⟨rfl, h1, h2⟩ | ⟨rfl, h1, h2⟩ | ⟨rfl, h1, h2⟩ | ⟨rfl, h2⟩ | ⟨rfl, h2⟩
 ·simp [B2, Du, A6]
 ·simp [B2, Du, A6]
 ·simp [B2, Du, Cb, hz]
 ·simp [B2, Du, Fr]
 ·simp [B2, Du, Fr]
 ·subst h2; simp [B2, Du]
 ·simp [B2, Du]
theorem Sb (is : List Val) (ns : List (List UInt8)) : ∀ (l : List (Val × List UInt8)) m, l.foldl (fun m x => IntKind.wrap .i64 (IntKind.wrap .i64 (m + B2 x.1) + C9 x.2)) (IntKind.wrap .i64 m) = IntKind.wrap .i64 (m + Gc (l.map (·.1)) + ((l.map (·.2)).map C9).sum) := by
 intro l
 induction l with
 | nil => intro m; simp [Gc]
 | cons v r ih =>
  intro m
  simp only [List.foldl_cons, List.map_cons, List.sum_cons, Gc]
  rw [show IntKind.wrap .i64 (IntKind.wrap .i64 (IntKind.wrap .i64 m + B2 v.1) + C9 v.2) = IntKind.wrap .i64 (m + Du v.1 + C9 v.2) by rw [B2, Fr, G6, Int.add_assoc, G6, ← Int.add_assoc], ih]
  congr 1
  omega
theorem rSize : ∀ v, okV v → B7 v = true → Runs lp 51 [El v] [] (.p (.int .i64 (B2 v)), []) := by
 refine Val.ind fun k n s is ns ih hok hmay => ?_
 obtain ⟨_, hn, hs, hil, hnl, hns, his⟩ := Em hok
 obtain ⟨hm1, hsh⟩ := Qk hmay
 have hz : zz n = zzN n := rfl
 have la := fun (hk : (k == 7) = false) m0 => Dx (lp := lp) (k := 0) (L := Ag J1 0) (fun i (m : Int) => tl 0 62 [(1, .ptr 0 0 0), (3, .p (.int .i64 m)), (4, .p (.int .i64 (i : Int)))]) (fun _ _ => [.row [[.p (.int .i64 k), .p (.int .i64 n), .p (.str s), .p (.sl (Ad is)), .p (.sl (Af ns))]]]) is
  (fun m x => IntKind.wrap .i64 (m + B2 x)) (fun m => (.exit 1, tl 0 62 [(3, .p (.int .i64 m))], [.row [[.p (.int .i64 k), .p (.int .i64 n), .p (.str s), .p (.sl (Ad is)), .p (.sl (Af ns))]]])) (fun _ _ => True)
  (by
    intro i m x r hx _
    obtain ⟨ke, ne, se, ise, nse⟩ := x
    have hi := (List.getElem?_eq_some_iff.1 hx).1
    have hm := List.mem_of_getElem? hx
    exact ⟨trivial, fun hr => Xi ke ne se ise nse (by rw [A3]; exact dlt hi) hx (ih _ hm (his _ hm) (hm1 _ hm)) hk (by rw [nx (by omega)]; exact hr)⟩)
  (fun m _ => Tr (by rw [A3]; exact dlt_n)) m0 trivial
 have lb := fun (hk : (k == 7) = true) (hnn : ns.length = is.length) m0 => Dx (lp := lp) (k := 0) (L := Ag J1 0) (fun i (m : Int) => tl 0 62 [(1, .ptr 0 0 0), (3, .p (.int .i64 m)), (4, .p (.int .i64 (i : Int)))]) (fun _ _ => [.row [[.p (.int .i64 k), .p (.int .i64 n), .p (.str s), .p (.sl (Ad is)), .p (.sl (Af ns))]]]) (is.zip ns)
  (fun m x => IntKind.wrap .i64 (IntKind.wrap .i64 (m + B2 x.1) + C9 x.2)) (fun m => (.exit 1, tl 0 62 [(3, .p (.int .i64 m))], [.row [[.p (.int .i64 k), .p (.int .i64 n), .p (.str s), .p (.sl (Ad is)), .p (.sl (Af ns))]]])) (fun _ _ => True)
  (by
    rintro i m ⟨x, y⟩ r hx _
    obtain ⟨ke, ne, se, ise, nse⟩ := x
    rw [List.getElem?_zip_eq_some] at hx
    obtain ⟨hx, hy⟩ := hx
    have hi := (List.getElem?_eq_some_iff.1 hx).1
    have hm := List.mem_of_getElem? hx
    obtain ⟨hj, rfl⟩ := List.getElem?_eq_some_iff.1 hy
    have e : ns.getD i [] = ns[i] := by rw [List.getD, List.getElem?_eq_getElem hj]; rfl
    refine ⟨trivial, fun hr => ?_⟩
    have := Xh (k := k) (n := n) (s := s) (is := is) (ns := ns) (i := i) (m := m) (r := r) ke ne se ise nse (by rw [A3]; exact dlt hi) hx (ih _ hm (his _ hm) (hm1 _ hm)) hk hj (Ia (by rw [e]; simpa [reachBytes] using hns _ (List.getElem_mem hj)))
     (by
       rw [nx (by omega), Cb, e]
       simp only [C9] at hr
       rw [List.length_append]
       simpa using hr)
    exact this)
  (fun m _ => by
    have e : (is.zip ns).length = is.length := by simp; omega
    rw [e]
    exact Tr (by rw [A3]; exact dlt_n)) m0 trivial
 have hv : ∀ j : Nat, IntKind.wrap .i64 (1 + ((Az j).length : Int)) = IntKind.wrap .i64 (1 + Dt j) := fun j => rfl
 have h := @rSiz0 k n s is ns (B2 (.mk k n s is ns)) (fun _ _ => Uo hn.1 hn.2) (fun _ _ _ => Ia (by simpa [reachBytes] using hs)) (fun _ _ _ _ => Ia (by simpa [reachBytes] using hs)) (fun _ _ _ _ _ => (by rw [A3]; exact G5 (by omega))) (fun _ _ _ _ _ => (by have h6 : k = 6 := eq_of_beq (by assumption); subst h6; have hns0 : ns = [] := (by rcases Ql hsh with h | h | h | h | h | h | h <;> simp_all); have := la rfl (IntKind.wrap .i64 (1 + Dt is.length)); rw [Nw] at this; rw [A3, Cb]; simpa [B2, Du, Dt] using this)) (fun _ _ _ _ _ _ => (by rw [A3]; exact G5 (by omega))) (fun _ _ _ _ _ _ => (by have h7 : k = 7 := eq_of_beq (by assumption); subst h7; have hnn : ns.length = is.length := (by rcases Ql hsh with h | h | h | h | h | h | h <;> simp_all); have := lb rfl hnn (IntKind.wrap .i64 (1 + Dt is.length)); rw [Sb is ns, List.map_fst_zip (by omega), List.map_snd_zip (by omega)] at this; rw [A3, Cb]; simpa [B2, Du, Dt] using this)) (fun _ _ _ _ _ _ => (by have h0 : is = [] ∧ k = 1 := (by rcases Ql hsh with h | h | h | h | h | h | h <;> simp_all); obtain ⟨h0, h1⟩ := h0; subst h0; subst h1; have := la rfl 1; simpa [B2, Du, A6] using this))
 refine ifE h ?_
 rcases Ql hsh with ⟨rfl, h1, h2⟩ | ⟨rfl, h1, h2⟩ | ⟨rfl, h1, h2⟩ | ⟨rfl, h1, h2⟩ | ⟨rfl, h1, h2⟩ | ⟨rfl, h2⟩ | ⟨rfl, h2⟩
 ·simp
 ·simp [B2, Du, A6]
 ·simp [B2, Du, Cb, hz]
 ·simp [B2, Du, Cb, C9]
 ·simp [B2, Du, Cb, C9]
 ·simp
 ·simp
theorem J9 : ∀ (l m : List Val), l.length = m.length → (l.zip m).all (fun p => Da p.1 p.2) = Dv l m
 | [], [], _ => rfl
 | v :: r, w :: q, h => by simp only [List.zip_cons_cons, List.all_cons, Dv, J9 r q (by simpa using h)]
theorem Ka : ∀ (l m : List (List UInt8)), l.length = m.length → (l.zip m).all (fun p => p.1 == p.2) = (l == m)
 | [], [], _ => rfl
 | v :: r, w :: q, h => by
  simp only [List.zip_cons_cons, List.all_cons, Ka r q (by simpa using h)]
  rfl
theorem Nx : ∀ (l m : List Val), Dv l m = true → l.length = m.length
 | [], [], _ => rfl
 | v :: r, w :: q, h => by simp only [Dv, Bool.and_eq_true] at h; simp [Nx r q h.2]
 | [], _ :: _, h => by simp [Dv] at h
 | _ :: _, [], h => by simp [Dv] at h
theorem F4 : ∀ v, Da v v = true := by
 refine Val.ind fun k n s is ns ih => ?_
 simp only [Da, beq_self_eq_true, Bool.true_and, Bool.and_true]
 induction is with
 | nil => rfl
 | cons v r ihr => simp only [Dv, ih v (List.mem_cons_self ..), Bool.true_and]; exact ihr fun w hw => ih w (List.mem_cons_of_mem _ hw)
theorem rSame : ∀ v, okV v → ∀ w, okV w → Runs lp 28 [El v, El w] [] (.p (.bool (Da v w)), []) := by
 refine Val.ind fun k n s is ns ih hok w hokw => ?_
 obtain ⟨kp, np, sp, isp, nsp⟩ := w
 obtain ⟨_, hn, hs, hil, hnl, hns, his⟩ := Em hok
 obtain ⟨_, hnp, hsp, hilp, hnlp, hnsp, hisp⟩ := Em hokw
 have l0 := fun (hl : is.length = isp.length) => Fq (lp := lp) (k := 0) (L := Ag Gv 0) (fun i => tl 0 81 [(2, .ptr 0 0 0), (3, .ptr 1 0 0), (5, .p (.int .i64 (i : Int)))]) [.row [[.p (.int .i64 k), .p (.int .i64 n), .p (.str s), .p (.sl (Ad is)), .p (.sl (Af ns))]], .row [[.p (.int .i64 kp), .p (.int .i64 np), .p (.str sp), .p (.sl (Ad isp)), .p (.sl (Af nsp))]]] (is.zip isp) (fun p => Da p.1 p.2)
  (rF := (.ret, tl 0 81 [(4, .p (.bool false))], [.row [[.p (.int .i64 k), .p (.int .i64 n), .p (.str s), .p (.sl (Ad is)), .p (.sl (Af ns))]], .row [[.p (.int .i64 kp), .p (.int .i64 np), .p (.str sp), .p (.sl (Ad isp)), .p (.sl (Af nsp))]]]))
  (rT := (.exit 0, tl 0 81 [(2, .ptr 0 0 0), (3, .ptr 1 0 0)], [.row [[.p (.int .i64 k), .p (.int .i64 n), .p (.str s), .p (.sl (Ad is)), .p (.sl (Af ns))]], .row [[.p (.int .i64 kp), .p (.int .i64 np), .p (.str sp), .p (.sl (Ad isp)), .p (.sl (Af nsp))]]]))
  (by
    rintro i ⟨x, y⟩ hx hp
    rw [List.getElem?_zip_eq_some] at hx
    obtain ⟨hx, hy⟩ := hx
    obtain ⟨ke, ne, se, ise, nse⟩ := x
    obtain ⟨kf, nf, sf, isf, nsf⟩ := y
    have hi := (List.getElem?_eq_some_iff.1 hx).1
    have hm := List.mem_of_getElem? hx
    have hm2 := List.mem_of_getElem? hy
    exact Xk ke ne se ise nse kf nf sf isf nsf (by rw [A3]; exact dlt hi) hx hy (ih _ hm (his _ hm) _ (hisp _ hm2)) hp)
  (by
    rintro i ⟨x, y⟩ r hx hp hr
    rw [List.getElem?_zip_eq_some] at hx
    obtain ⟨hx, hy⟩ := hx
    obtain ⟨ke, ne, se, ise, nse⟩ := x
    obtain ⟨kf, nf, sf, isf, nsf⟩ := y
    have hi := (List.getElem?_eq_some_iff.1 hx).1
    have hm := List.mem_of_getElem? hx
    have hm2 := List.mem_of_getElem? hy
    exact Xj ke ne se ise nse kf nf sf isf nsf (by rw [A3]; exact dlt hi) hx hy (ih _ hm (his _ hm) _ (hisp _ hm2)) hp (by rw [nx (by omega)]; exact hr))
  (by
    have e : (is.zip isp).length = is.length := by simp; omega
    rw [e]
    exact Zq (by rw [A3]; exact dlt_n))
 have l1 := fun (hl : ns.length = nsp.length) => Fq (lp := lp) (k := 0) (L := Ag Gv 1) (fun i => tl 0 81 [(2, .ptr 0 0 0), (3, .ptr 1 0 0), (6, .p (.int .i64 (i : Int)))]) [.row [[.p (.int .i64 k), .p (.int .i64 n), .p (.str s), .p (.sl (Ad is)), .p (.sl (Af ns))]], .row [[.p (.int .i64 kp), .p (.int .i64 np), .p (.str sp), .p (.sl (Ad isp)), .p (.sl (Af nsp))]]] (ns.zip nsp) (fun p => p.1 == p.2)
  (rF := (.ret, tl 0 81 [(4, .p (.bool false))], [.row [[.p (.int .i64 k), .p (.int .i64 n), .p (.str s), .p (.sl (Ad is)), .p (.sl (Af ns))]], .row [[.p (.int .i64 kp), .p (.int .i64 np), .p (.str sp), .p (.sl (Ad isp)), .p (.sl (Af nsp))]]]))
  (rT := (.exit 2, tl 0 81 [], [.row [[.p (.int .i64 k), .p (.int .i64 n), .p (.str s), .p (.sl (Ad is)), .p (.sl (Af ns))]], .row [[.p (.int .i64 kp), .p (.int .i64 np), .p (.str sp), .p (.sl (Ad isp)), .p (.sl (Af nsp))]]]))
  (by
    rintro i ⟨x, y⟩ hx hp
    rw [List.getElem?_zip_eq_some] at hx
    obtain ⟨hx, hy⟩ := hx
    obtain ⟨hi, rfl⟩ := List.getElem?_eq_some_iff.1 hx
    obtain ⟨hj, rfl⟩ := List.getElem?_eq_some_iff.1 hy
    have e : ns.getD i [] = ns[i] := by rw [List.getD, List.getElem?_eq_getElem hi]; rfl
    have e2 : nsp.getD i [] = nsp[i] := by rw [List.getD, List.getElem?_eq_getElem hj]; rfl
    exact Xm (by rw [Bj]; exact dlt hi) hi hj (by rw [e, e2]; exact hp))
  (by
    rintro i ⟨x, y⟩ r hx hp hr
    rw [List.getElem?_zip_eq_some] at hx
    obtain ⟨hx, hy⟩ := hx
    obtain ⟨hi, rfl⟩ := List.getElem?_eq_some_iff.1 hx
    obtain ⟨hj, rfl⟩ := List.getElem?_eq_some_iff.1 hy
    have e : ns.getD i [] = ns[i] := by rw [List.getD, List.getElem?_eq_getElem hi]; rfl
    have e2 : nsp.getD i [] = nsp[i] := by rw [List.getD, List.getElem?_eq_getElem hj]; rfl
    exact Xl (by rw [Bj]; exact dlt hi) hi hj (by rw [e, e2]; exact hp) (by rw [nx (by omega)]; exact hr))
  (by
    have e : (ns.zip nsp).length = ns.length := by simp; omega
    rw [e]
    exact Zr (by rw [Bj]; exact dlt_n))
 have z0 : ((List.length (Ad is) : Nat) : Int) = ((List.length (Ad isp) : Nat) : Int) → is.length = isp.length := by rw [A3, A3]; omega
 have z1 : ((List.length (Af ns) : Nat) : Int) = ((List.length (Af nsp) : Nat) : Int) → ns.length = nsp.length := by rw [Bj, Bj]; omega
 have h := @rSam0 k n s is ns kp np sp isp nsp (fun _ _ _ hq _ hc => by have := l0 (z0 (eq_of_beq hq)); rw [J9 _ _ (z0 (eq_of_beq hq)), hc] at this; exact this) (fun _ _ _ _ hq _ hc => by have := l1 (z1 (eq_of_beq hq)); rw [Ka _ _ (z1 (eq_of_beq hq)), hc] at this; exact this) (fun _ _ _ _ hq _ hc => by have := l1 (z1 (eq_of_beq hq)); rw [Ka _ _ (z1 (eq_of_beq hq)), hc] at this; exact this) (fun _ _ _ hq _ hc => by have := l0 (z0 (eq_of_beq hq)); rw [J9 _ _ (z0 (eq_of_beq hq)), hc] at this; exact this)
 refine ifE h ?_
 simp only [Da]
 by_cases c1 : k = kp
 ·by_cases c2 : n = np
  ·by_cases c3 : s = sp
   ·by_cases c4 : is.length = isp.length
    ·by_cases c5 : ns.length = nsp.length
     ·cases hc : Dv is isp <;> cases hd : (ns == nsp) <;> simp [c1, c2, c3, c4, c5, hc, hd, A3, Bj]
     ·have : (ns == nsp) = false := by rw [beq_eq_false_iff_ne]; intro h; exact c5 (by rw [h])
      have c5' : ¬ ((ns.length : Int) = nsp.length) := by omega
      simp [c1, c2, c3, c4, c5', A3, Bj, this]
    ·have : Dv is isp = false := by
      cases hc : Dv is isp with
      | false => rfl
      | true => exact absurd (Nx _ _ hc) c4
     have c4' : ¬ ((is.length : Int) = isp.length) := by omega
     simp [c1, c2, c3, c4', A3, Bj, this]
   ·simp [c1, c2, c3]
  ·simp [c1, c2]
 ·simp [c1]
theorem Xn {ns : List (List UInt8)} (h : ns.length * 16 ≤ 140737488355328) : Runs lp 55 [.p (.sl (Af ns))] [] (.p (.sl (Af ns)), []) := by
 cases ns with
 | nil => exact ⟨20, by kernel_rfl⟩
 | cons x r =>
  have q : OpW [] (.append false 1 16 (.const (.tight [])) (.const (.p (.sl (Af (x :: r)))))) (.sl ([] ++ Af (x :: r)) 0 ([] ++ Af (x :: r)).length) [.spare 1 ([] ++ Af (x :: r)).length] :=
   F3 (size := 1) (bytes := 16) (E := []) (X := Af (x :: r)) rfl rfl (Qe _) (by simp [Af]) (by rw [Bj]; simpa using h) (by rw [Bj]; simp at h ⊢; omega) (by decide)
  exact C5 (N := 100) (os := [(6, oO q)]) (ps := [_]) (by kernel_rfl) ⟨q, trivial⟩
theorem vClone : ∀ v, okV v → Runs lp 34 [El v] [] (El v, []) := by
 refine Val.ind fun k n s is ns ih hok => ?_
 obtain ⟨_, hn, hs, hil, hnl, hns, his⟩ := Em hok
 cases is with
 | nil => exact @vClo0 k n s [] ns (Xn hnl) (fun _ => Zt (is := []) (i := 0) (by rfl)) (fun h => by simp at h)
 | cons v0 r =>
  generalize hxs : v0 :: r = is at *
  have l := Dx (lp := lp) (k := 0) (L := Ag Lc 0) (fun i (es : List Val) => tl 0 28 [(1, .ptr 0 0 0), (2, if i = 0 then .ptr 1 0 0 else .ptr 2 0 0), (13, .p (.sl (Ad is))), (14, .p (.int .i64 ((List.length (Ad is) : Nat) : Int))), (15, .p (.int .i64 (i : Int)))])
   (fun i es => if i = 0 then [.row [[.p (.int .i64 k), .p (.int .i64 n), .p (.str s), .tight [], .p (.sl (Af ns))]], .row [[.p (.int .i64 0), .p (.int .i64 0), .p (.str []), .tight [], .tight []]]]
     else [.row [[.p (.int .i64 k), .p (.int .i64 n), .p (.str s), .sl (Ad es) 1 (List.length (Ad es)), .p (.sl (Af ns))]], .spare 5 (List.length (Ad es)), .row [[.p (.int .i64 0), .p (.int .i64 0), .p (.str []), .tight [], .tight []]]]) is
   (fun es x => es ++ [x]) (fun es => (.exit 0, tl 0 28 [(1, .ptr 0 0 0), (2, .ptr 2 0 0)], [.row [[.p (.int .i64 k), .p (.int .i64 n), .p (.str s), .sl (Ad es) 1 (List.length (Ad es)), .p (.sl (Af ns))]], .spare 5 (List.length (Ad es)), .row [[.p (.int .i64 0), .p (.int .i64 0), .p (.str []), .tight [], .tight []]]])) (fun i es => es = is.take i)
   (by
     rintro i es x r hx rfl
     obtain ⟨ke, ne, se, ise, nse⟩ := x
     have hi := (List.getElem?_eq_some_iff.1 hx).1
     have hm := List.mem_of_getElem? hx
     refine ⟨by rw [List.take_add_one, hx]; rfl, fun hr => ?_⟩
     rw [if_neg (by omega), if_neg (by omega)] at hr
     by_cases h0 : i = 0
     ·subst h0
      rw [if_pos rfl, if_pos rfl]
      exact Zs ke ne se ise nse (by rw [A3]; exact dlt hi) hx (ih _ hm (his _ hm)) (by rw [nx (by omega)]; exact hr)
     ·rw [if_neg h0, if_neg h0]
      exact Zu ke ne se ise nse (by rw [A3]; exact dlt hi) hx (ih _ hm (his _ hm)) (by rw [List.length_take]; omega) (by rw [nx (by omega)]; exact hr))
   (by
     rintro es rfl
     have hne0 : ¬ is.length = 0 := by rw [← hxs]; simp
     rw [if_neg hne0, if_neg hne0]
     exact Zv (by rw [A3]; exact dlt_n)) [] rfl
  have hf : ∀ (l a : List Val), l.foldl (fun es x => es ++ [x]) a = a ++ l := by
   intro l
   induction l with
   | nil => intro a; simp
   | cons x r ihr => intro a; simp only [List.foldl_cons, ihr]; simp
  rw [hf, List.nil_append, if_pos rfl, if_pos rfl] at l
  have hne : decide (is = []) = false := by rw [← hxs]; simp
  have h := @vClo0 k n s is ns (Xn hnl) (fun h => by rw [hne] at h; cases h) (fun _ => l)
  refine ifE h ?_
  rw [hne]; rfl
end Go.Proofs.Ytmbjojnldbeicaa

import Derived.Test.YthhcdjhdpbkgnaaLsVal3W
set_option linter.unusedVariables false
set_option linter.unusedSimpArgs false
set_option maxRecDepth 100000
set_option linter.unusedSimpArgs false
namespace Go.Proofs.Ythhcdjhdpbkgnaa
open Go Go.LS
theorem nodes_fold (d : Int) {ρ : Type} (rd : Int → ρ) : ∀ (l : List Val) m, foldE (fun m x => if m < 65536 then (.inr (IntKind.wrap .i64 (m + nodesV d x)) : ρ ⊕ Int) else .inl (rd m)) rd m l = rd (nodesL d m l) := by
  intro l
  induction l with
  | nil => intro m; simp [foldE, nodesL]
  | cons v r ih =>
    intro m
    simp only [foldE, nodesL]
    by_cases h : m < 65536
    · simp only [h, if_true]; exact ih _
    · simp only [h, if_false]
theorem rNodes : ∀ v, okV v → ∀ d, Runs lp 32 [encV v, .p (.int .i64 d)] [] (.p (.int .i64 (nodesV d v)), []) := by
  refine Val.ind fun k n s is ns ih hok d => ?_
  obtain ⟨_, hn, hs, hil, hnl, hns, his⟩ := okV_inv hok
  have l := loop_fold (lp := lp) (k := 0) (L := loopNo lf32 0) (fun i (m : Int) => tl 0 35 [(1, .p (.int .i64 d)), (2, .ptr 0 0 0), (5, .p (.int .i64 m)), (6, .p (.int .i64 (i : Int)))]) (fun _ _ => [.row [[.p (.int .i64 k), .p (.int .i64 n), .p (.str s), .p (.sl (rowsV is)), .p (.sl (rowsN ns))]]]) is
    (fun m x => if m < 65536 then .inr (IntKind.wrap .i64 (m + nodesV (IntKind.wrap .i64 (d + 1)) x)) else .inl (.exit 0, tl 0 35 [(5, .p (.int .i64 m))], [.row [[.p (.int .i64 k), .p (.int .i64 n), .p (.str s), .p (.sl (rowsV is)), .p (.sl (rowsN ns))]]]))
    (fun m => (.exit 0, tl 0 35 [(5, .p (.int .i64 m))], [.row [[.p (.int .i64 k), .p (.int .i64 n), .p (.str s), .p (.sl (rowsV is)), .p (.sl (rowsN ns))]]])) (fun _ _ => True)
    (by
      intro i m x hx _
      obtain ⟨ke, ne, se, ise, nse⟩ := x
      have hi := (List.getElem?_eq_some_iff.1 hx).1
      have hm := List.mem_of_getElem? hx
      by_cases h : m < 65536
      · simp only [h, if_true]
        refine ⟨fun r h => (by cases h), fun s' hs' => ?_⟩
        cases hs'
        exact ⟨trivial, fun r hr => rNodR_yy ke ne se ise nse (by rw [rowsV_len]; exact dlt hi) (decide_eq_true h) hx (ih _ hm (his _ hm) _) (by rw [nx (by omega)]; exact hr)⟩
      · simp only [h, if_false]
        refine ⟨fun r hr => ?_, fun s' h => (by cases h)⟩
        cases hr
        exact rNodR_yn (by rw [rowsV_len]; exact dlt hi) (decide_eq_false h))
    (fun m _ => rNodR_n (by rw [rowsV_len]; exact dlt_n)) (IntKind.wrap .i64 (1 + (ns.length : Int))) trivial
  rw [nodes_fold (IntKind.wrap .i64 (d + 1)) (fun m => ((.exit 0, tl 0 35 [(5, .p (.int .i64 m))], [.row [[.p (.int .i64 k), .p (.int .i64 n), .p (.str s), .p (.sl (rowsV is)), .p (.sl (rowsN ns))]]]) : LOut × List LV × List LObj))] at l
  have h := @rNod0 k n s is ns d (nodesL (IntKind.wrap .i64 (d + 1)) (IntKind.wrap .i64 (1 + (ns.length : Int))) is) (fun _ => by rw [rowsN_len]; exact l)
  refine ifE h ?_
  rw [nodesV]
  by_cases hd : d > 40
  · simp [hd]
  · simp [hd]
theorem rLarge (v : Val) (hok : okV v) : Runs lp 8 [encV v] [] (.p (.bool (largeV v)), []) := by
  obtain ⟨k, n, s, is, ns⟩ := v
  exact rLarge0 (rNodes _ hok 0)
theorem sameL_zip : ∀ (l m : List Val), l.length = m.length → (l.zip m).all (fun p => sameV p.1 p.2) = sameL l m
  | [], [], _ => rfl
  | v :: r, w :: q, h => by simp only [List.zip_cons_cons, List.all_cons, sameL, sameL_zip r q (by simpa using h)]
theorem sameN_zip : ∀ (l m : List (List UInt8)), l.length = m.length → (l.zip m).all (fun p => p.1 == p.2) = (l == m)
  | [], [], _ => rfl
  | v :: r, w :: q, h => by
    simp only [List.zip_cons_cons, List.all_cons, sameN_zip r q (by simpa using h)]
    rfl
theorem sameL_len : ∀ (l m : List Val), sameL l m = true → l.length = m.length
  | [], [], _ => rfl
  | v :: r, w :: q, h => by simp only [sameL, Bool.and_eq_true] at h; simp [sameL_len r q h.2]
  | [], _ :: _, h => by simp [sameL] at h
  | _ :: _, [], h => by simp [sameL] at h
theorem sameV_refl : ∀ v, sameV v v = true := by
  refine Val.ind fun k n s is ns ih => ?_
  simp only [sameV, beq_self_eq_true, Bool.true_and, Bool.and_true]
  induction is with
  | nil => rfl
  | cons v r ihr => simp only [sameL, ih v (List.mem_cons_self ..), Bool.true_and]; exact ihr fun w hw => ih w (List.mem_cons_of_mem _ hw)
theorem rSame : ∀ v, okV v → ∀ w, okV w → Runs lp 18 [encV v, encV w] [] (.p (.bool (sameV v w)), []) := by
  refine Val.ind fun k n s is ns ih hok w hokw => ?_
  obtain ⟨kp, np, sp, isp, nsp⟩ := w
  obtain ⟨_, hn, hs, hil, hnl, hns, his⟩ := okV_inv hok
  obtain ⟨_, hnp, hsp, hilp, hnlp, hnsp, hisp⟩ := okV_inv hokw
  have l0 := fun (hl : is.length = isp.length) => loop_all (lp := lp) (k := 0) (L := loopNo lf18 0) (fun i => tl 0 81 [(2, .ptr 0 0 0), (3, .ptr 1 0 0), (5, .p (.int .i64 (i : Int)))]) [.row [[.p (.int .i64 k), .p (.int .i64 n), .p (.str s), .p (.sl (rowsV is)), .p (.sl (rowsN ns))]], .row [[.p (.int .i64 kp), .p (.int .i64 np), .p (.str sp), .p (.sl (rowsV isp)), .p (.sl (rowsN nsp))]]] (is.zip isp) (fun p => sameV p.1 p.2)
    (rF := (.ret, tl 0 81 [(4, .p (.bool false))], [.row [[.p (.int .i64 k), .p (.int .i64 n), .p (.str s), .p (.sl (rowsV is)), .p (.sl (rowsN ns))]], .row [[.p (.int .i64 kp), .p (.int .i64 np), .p (.str sp), .p (.sl (rowsV isp)), .p (.sl (rowsN nsp))]]]))
    (rT := (.exit 0, tl 0 81 [(2, .ptr 0 0 0), (3, .ptr 1 0 0)], [.row [[.p (.int .i64 k), .p (.int .i64 n), .p (.str s), .p (.sl (rowsV is)), .p (.sl (rowsN ns))]], .row [[.p (.int .i64 kp), .p (.int .i64 np), .p (.str sp), .p (.sl (rowsV isp)), .p (.sl (rowsN nsp))]]]))
    (by
      rintro i ⟨x, y⟩ hx hp
      rw [List.getElem?_zip_eq_some] at hx
      obtain ⟨hx, hy⟩ := hx
      obtain ⟨ke, ne, se, ise, nse⟩ := x
      obtain ⟨kf, nf, sf, isf, nsf⟩ := y
      have hi := (List.getElem?_eq_some_iff.1 hx).1
      have hm := List.mem_of_getElem? hx
      have hm2 := List.mem_of_getElem? hy
      exact rSamI_yn ke ne se ise nse kf nf sf isf nsf (by rw [rowsV_len]; exact dlt hi) hx hy (ih _ hm (his _ hm) _ (hisp _ hm2)) hp)
    (by
      rintro i ⟨x, y⟩ r hx hp hr
      rw [List.getElem?_zip_eq_some] at hx
      obtain ⟨hx, hy⟩ := hx
      obtain ⟨ke, ne, se, ise, nse⟩ := x
      obtain ⟨kf, nf, sf, isf, nsf⟩ := y
      have hi := (List.getElem?_eq_some_iff.1 hx).1
      have hm := List.mem_of_getElem? hx
      have hm2 := List.mem_of_getElem? hy
      exact rSamI_yy ke ne se ise nse kf nf sf isf nsf (by rw [rowsV_len]; exact dlt hi) hx hy (ih _ hm (his _ hm) _ (hisp _ hm2)) hp (by rw [nx (by omega)]; exact hr))
    (by
      have e : (is.zip isp).length = is.length := by simp; omega
      rw [e]
      exact rSamI_n (by rw [rowsV_len]; exact dlt_n))
  have l1 := fun (hl : ns.length = nsp.length) => loop_all (lp := lp) (k := 0) (L := loopNo lf18 1) (fun i => tl 0 81 [(2, .ptr 0 0 0), (3, .ptr 1 0 0), (6, .p (.int .i64 (i : Int)))]) [.row [[.p (.int .i64 k), .p (.int .i64 n), .p (.str s), .p (.sl (rowsV is)), .p (.sl (rowsN ns))]], .row [[.p (.int .i64 kp), .p (.int .i64 np), .p (.str sp), .p (.sl (rowsV isp)), .p (.sl (rowsN nsp))]]] (ns.zip nsp) (fun p => p.1 == p.2)
    (rF := (.ret, tl 0 81 [(4, .p (.bool false))], [.row [[.p (.int .i64 k), .p (.int .i64 n), .p (.str s), .p (.sl (rowsV is)), .p (.sl (rowsN ns))]], .row [[.p (.int .i64 kp), .p (.int .i64 np), .p (.str sp), .p (.sl (rowsV isp)), .p (.sl (rowsN nsp))]]]))
    (rT := (.exit 2, tl 0 81 [], [.row [[.p (.int .i64 k), .p (.int .i64 n), .p (.str s), .p (.sl (rowsV is)), .p (.sl (rowsN ns))]], .row [[.p (.int .i64 kp), .p (.int .i64 np), .p (.str sp), .p (.sl (rowsV isp)), .p (.sl (rowsN nsp))]]]))
    (by
      rintro i ⟨x, y⟩ hx hp
      rw [List.getElem?_zip_eq_some] at hx
      obtain ⟨hx, hy⟩ := hx
      obtain ⟨hi, rfl⟩ := List.getElem?_eq_some_iff.1 hx
      obtain ⟨hj, rfl⟩ := List.getElem?_eq_some_iff.1 hy
      have e : ns.getD i [] = ns[i] := by rw [List.getD, List.getElem?_eq_getElem hi]; rfl
      have e2 : nsp.getD i [] = nsp[i] := by rw [List.getD, List.getElem?_eq_getElem hj]; rfl
      exact rSamN_yn (by rw [rowsN_len]; exact dlt hi) hi hj (by rw [e, e2]; exact hp))
    (by
      rintro i ⟨x, y⟩ r hx hp hr
      rw [List.getElem?_zip_eq_some] at hx
      obtain ⟨hx, hy⟩ := hx
      obtain ⟨hi, rfl⟩ := List.getElem?_eq_some_iff.1 hx
      obtain ⟨hj, rfl⟩ := List.getElem?_eq_some_iff.1 hy
      have e : ns.getD i [] = ns[i] := by rw [List.getD, List.getElem?_eq_getElem hi]; rfl
      have e2 : nsp.getD i [] = nsp[i] := by rw [List.getD, List.getElem?_eq_getElem hj]; rfl
      exact rSamN_yy (by rw [rowsN_len]; exact dlt hi) hi hj (by rw [e, e2]; exact hp) (by rw [nx (by omega)]; exact hr))
    (by
      have e : (ns.zip nsp).length = ns.length := by simp; omega
      rw [e]
      exact rSamN_n (by rw [rowsN_len]; exact dlt_n))
  have z0 : ((List.length (rowsV is) : Nat) : Int) = ((List.length (rowsV isp) : Nat) : Int) → is.length = isp.length := by rw [rowsV_len, rowsV_len]; omega
  have z1 : ((List.length (rowsN ns) : Nat) : Int) = ((List.length (rowsN nsp) : Nat) : Int) → ns.length = nsp.length := by rw [rowsN_len, rowsN_len]; omega
  have h := @rSam0 k n s is ns kp np sp isp nsp (fun _ _ _ hq _ hc => by have := l0 (z0 (eq_of_beq hq)); rw [sameL_zip _ _ (z0 (eq_of_beq hq)), hc] at this; exact this) (fun _ _ _ _ hq _ hc => by have := l1 (z1 (eq_of_beq hq)); rw [sameN_zip _ _ (z1 (eq_of_beq hq)), hc] at this; exact this) (fun _ _ _ _ hq _ hc => by have := l1 (z1 (eq_of_beq hq)); rw [sameN_zip _ _ (z1 (eq_of_beq hq)), hc] at this; exact this) (fun _ _ _ hq _ hc => by have := l0 (z0 (eq_of_beq hq)); rw [sameL_zip _ _ (z0 (eq_of_beq hq)), hc] at this; exact this)
  refine ifE h ?_
  simp only [sameV]
  by_cases c1 : k = kp
  · by_cases c2 : n = np
    · by_cases c3 : s = sp
      · by_cases c4 : is.length = isp.length
        · by_cases c5 : ns.length = nsp.length
          · cases hc : sameL is isp <;> cases hd : (ns == nsp) <;> simp [c1, c2, c3, c4, c5, hc, hd, rowsV_len, rowsN_len]
          · have : (ns == nsp) = false := by rw [beq_eq_false_iff_ne]; intro h; exact c5 (by rw [h])
            have c5' : ¬ ((ns.length : Int) = nsp.length) := by omega
            simp [c1, c2, c3, c4, c5', rowsV_len, rowsN_len, this]
        · have : sameL is isp = false := by
            cases hc : sameL is isp with
            | false => rfl
            | true => exact absurd (sameL_len _ _ hc) c4
          have c4' : ¬ ((is.length : Int) = isp.length) := by omega
          simp [c1, c2, c3, c4', rowsV_len, rowsN_len, this]
      · simp [c1, c2, c3]
    · simp [c1, c2]
  · simp [c1]
end Go.Proofs.Ythhcdjhdpbkgnaa

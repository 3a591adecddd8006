import Derived.Test.YtpkmddkodchanaaLsVal3W
set_option linter.unusedVariables false
set_option linter.unusedSimpArgs false
set_option maxRecDepth 100000
set_option linter.unusedSimpArgs false
namespace Go.Proofs.Ytpkmddkodchanaa
open Go Go.LS
theorem P2 (d : Int) {ρ : Type} (rd : Int → ρ) : ∀ (l : List Val) m, Fi (fun m x => if m < 65536 then (.inr (IntKind.wrap .i64 (m + B1 d x)) : ρ ⊕ Int) else .inl (rd m)) rd m l = rd (Ci d m l) := by
 intro l
 induction l with
 | nil => intro m; simp [Fi, Ci]
 | cons v r ih =>
  intro m
  simp only [Fi, Ci]
  by_cases h : m < 65536
  ·simp only [h, if_true]; exact ih _
  ·simp only [h, if_false]
theorem rNodes : ∀ v, okV v → ∀ d, Runs lp 32 [B9 v, .p (.int .i64 d)] [] (.p (.int .i64 (B1 d v)), []) := by
 refine Val.ind fun k n s is ns ih hok d => ?_
 obtain ⟨_, hn, hs, hil, hnl, hns, his⟩ := C4 hok
 have l := G6 (lp := lp) (k := 0) (L := Aj Nq 0) (fun i (m : Int) => tl 0 35 [(1, .p (.int .i64 d)), (2, .ptr 0 0 0), (5, .p (.int .i64 m)), (6, .p (.int .i64 (i : Int)))]) (fun _ _ => [.row [[.p (.int .i64 k), .p (.int .i64 n), .p (.str s), .p (.sl (Ac is)), .p (.sl (Ab ns))]]]) is
  (fun m x => if m < 65536 then .inr (IntKind.wrap .i64 (m + B1 (IntKind.wrap .i64 (d + 1)) x)) else .inl (.exit 0, tl 0 35 [(5, .p (.int .i64 m))], [.row [[.p (.int .i64 k), .p (.int .i64 n), .p (.str s), .p (.sl (Ac is)), .p (.sl (Ab ns))]]]))
  (fun m => (.exit 0, tl 0 35 [(5, .p (.int .i64 m))], [.row [[.p (.int .i64 k), .p (.int .i64 n), .p (.str s), .p (.sl (Ac is)), .p (.sl (Ab ns))]]])) (fun _ _ => True)
  (by
    intro i m x hx _
    obtain ⟨ke, ne, se, ise, nse⟩ := x
    have hi := (List.getElem?_eq_some_iff.1 hx).1
    have hm := List.mem_of_getElem? hx
    by_cases h : m < 65536
    ·simp only [h, if_true]
     refine ⟨fun r h => (by cases h), fun s' hs' => ?_⟩
     cases hs'
     exact ⟨trivial, fun r hr => Tj ke ne se ise nse (by rw [Ah]; exact dlt hi) (decide_eq_true h) hx (ih _ hm (his _ hm) _) (by rw [nx (by omega)]; exact hr)⟩
    ·simp only [h, if_false]
     refine ⟨fun r hr => ?_, fun s' h => (by cases h)⟩
     cases hr
     exact Tk (by rw [Ah]; exact dlt hi) (decide_eq_false h))
  (fun m _ => U9 (by rw [Ah]; exact dlt_n)) (IntKind.wrap .i64 (1 + (ns.length : Int))) trivial
 rw [P2 (IntKind.wrap .i64 (d + 1)) (fun m => ((.exit 0, tl 0 35 [(5, .p (.int .i64 m))], [.row [[.p (.int .i64 k), .p (.int .i64 n), .p (.str s), .p (.sl (Ac is)), .p (.sl (Ab ns))]]]) : Cg × List LV × List LObj))] at l
 have h := @rNod0 k n s is ns d (Ci (IntKind.wrap .i64 (d + 1)) (IntKind.wrap .i64 (1 + (ns.length : Int))) is) (fun _ => by rw [Ak]; exact l)
 refine ifE h ?_
 rw [B1]
 by_cases hd : d > 40
 ·simp [hd]
 ·simp [hd]
theorem rLarge (v : Val) (hok : okV v) : Runs lp 16 [B9 v] [] (.p (.bool (Ev v)), []) := by
 obtain ⟨k, n, s, is, ns⟩ := v
 exact Va (rNodes _ hok 0)
theorem Hx (d : Int) : ∀ (l : List Val) m, 65536 ≤ m → Ci d m l = m := by
 intro l m h
 cases l with
 | nil => rfl
 | cons v r => rw [Ci, if_neg (by omega)]
theorem Iy : ∀ v, okV v → ∀ d : Int, 0 ≤ d → d ≤ 1000 → 1 ≤ B1 d v ∧ B1 d v ≤ 10000000000000 + 65536 * (1001 - d) ∧ (B1 d v < 65536 → Pv v + d ≤ 41) := by
 refine Val.ind fun k n s is ns ih hok d h0 h1 => ?_
 obtain ⟨_, hn, hs, hil, hnl, hns, his⟩ := C4 hok
 rw [B1, Pv]
 by_cases hd : d > 40
 ·rw [if_pos hd]; omega
 ·rw [if_neg hd, Bv (by omega) (by omega), Bv (by omega) (by omega)]
  have key : ∀ l, (∀ v ∈ l, v ∈ is) → ∀ m, 1 ≤ m → m ≤ 10000000000000 + 65536 * (1001 - d) → 1 ≤ Ci (d + 1) m l ∧ m ≤ Ci (d + 1) m l ∧ Ci (d + 1) m l ≤ 10000000000000 + 65536 * (1001 - d) ∧ (Ci (d + 1) m l < 65536 → Lo l + (d + 1) ≤ 41) := by
   intro l
   induction l with
   | nil => intro _ m hm hm2; simp only [Ci, Lo]; exact ⟨hm, by omega, by omega, fun _ => by omega⟩
   | cons v r ihr =>
    intro hl m hm hm2
    have hv := hl v (List.mem_cons_self ..)
    obtain ⟨b1, b2, b3⟩ := ih v hv (his v hv) (d + 1) (by omega) (by omega)
    rw [Ci]
    by_cases hmm : m < 65536
    ·rw [if_pos hmm, Bv (by omega) (by omega)]
     by_cases hbig : 65536 ≤ m + B1 (d + 1) v
     ·rw [Hx _ _ _ hbig]
      exact ⟨by omega, by omega, by omega, fun h => by omega⟩
     ·obtain ⟨c1, c2, c3, c4⟩ := ihr (fun w hw => hl w (List.mem_cons_of_mem _ hw)) (m + B1 (d + 1) v) (by omega) (by omega)
      refine ⟨c1, by omega, by omega, fun h => ?_⟩
      have := b3 (by omega)
      have := c4 h
      rw [Lo]
      omega
    ·rw [if_neg hmm]
     exact ⟨hm, by omega, by omega, fun h => by omega⟩
  obtain ⟨c1, c2, c3, c4⟩ := key is (fun v h => h) (1 + (ns.length : Int)) (by omega) (by omega)
  exact ⟨c1, c3, fun h => by have := c4 h; omega⟩
theorem Jn : ∀ (l m : List Val), l.length = m.length → (l.zip m).all (fun p => Do p.1 p.2) = Dp l m
 | [], [], _ => rfl
 | v :: r, w :: q, h => by simp only [List.zip_cons_cons, List.all_cons, Dp, Jn r q (by simpa using h)]
theorem Jo : ∀ (l m : List (List UInt8)), l.length = m.length → (l.zip m).all (fun p => p.1 == p.2) = (l == m)
 | [], [], _ => rfl
 | v :: r, w :: q, h => by
  simp only [List.zip_cons_cons, List.all_cons, Jo r q (by simpa using h)]
  rfl
theorem M1 : ∀ (l m : List Val), Dp l m = true → l.length = m.length
 | [], [], _ => rfl
 | v :: r, w :: q, h => by simp only [Dp, Bool.and_eq_true] at h; simp [M1 r q h.2]
 | [], _ :: _, h => by simp [Dp] at h
 | _ :: _, [], h => by simp [Dp] at h
theorem P3 : ∀ v, Do v v = true := by
 refine Val.ind fun k n s is ns ih => ?_
 simp only [Do, beq_self_eq_true, Bool.true_and, Bool.and_true]
 induction is with
 | nil => rfl
 | cons v r ihr => simp only [Dp, ih v (List.mem_cons_self ..), Bool.true_and]; exact ihr fun w hw => ih w (List.mem_cons_of_mem _ hw)
theorem rSame : ∀ v, okV v → ∀ w, okV w → Runs lp 15 [B9 v, B9 w] [] (.p (.bool (Do v w)), []) := by
 refine Val.ind fun k n s is ns ih hok w hokw => ?_
 obtain ⟨kp, np, sp, isp, nsp⟩ := w
 obtain ⟨_, hn, hs, hil, hnl, hns, his⟩ := C4 hok
 obtain ⟨_, hnp, hsp, hilp, hnlp, hnsp, hisp⟩ := C4 hokw
 have l0 := fun (hl : is.length = isp.length) => Fj (lp := lp) (k := 0) (L := Aj Gk 0) (fun i => tl 0 81 [(2, .ptr 0 0 0), (3, .ptr 1 0 0), (5, .p (.int .i64 (i : Int)))]) [.row [[.p (.int .i64 k), .p (.int .i64 n), .p (.str s), .p (.sl (Ac is)), .p (.sl (Ab ns))]], .row [[.p (.int .i64 kp), .p (.int .i64 np), .p (.str sp), .p (.sl (Ac isp)), .p (.sl (Ab nsp))]]] (is.zip isp) (fun p => Do p.1 p.2)
  (rF := (.ret, tl 0 81 [(4, .p (.bool false))], [.row [[.p (.int .i64 k), .p (.int .i64 n), .p (.str s), .p (.sl (Ac is)), .p (.sl (Ab ns))]], .row [[.p (.int .i64 kp), .p (.int .i64 np), .p (.str sp), .p (.sl (Ac isp)), .p (.sl (Ab nsp))]]]))
  (rT := (.exit 0, tl 0 81 [(2, .ptr 0 0 0), (3, .ptr 1 0 0)], [.row [[.p (.int .i64 k), .p (.int .i64 n), .p (.str s), .p (.sl (Ac is)), .p (.sl (Ab ns))]], .row [[.p (.int .i64 kp), .p (.int .i64 np), .p (.str sp), .p (.sl (Ac isp)), .p (.sl (Ab nsp))]]]))
  (by
    rintro i ⟨x, y⟩ hx hp
    rw [List.getElem?_zip_eq_some] at hx
    obtain ⟨hx, hy⟩ := hx
    obtain ⟨ke, ne, se, ise, nse⟩ := x
    obtain ⟨kf, nf, sf, isf, nsf⟩ := y
    have hi := (List.getElem?_eq_some_iff.1 hx).1
    have hm := List.mem_of_getElem? hx
    have hm2 := List.mem_of_getElem? hy
    exact Tm ke ne se ise nse kf nf sf isf nsf (by rw [Ah]; exact dlt hi) hx hy (ih _ hm (his _ hm) _ (hisp _ hm2)) hp)
  (by
    rintro i ⟨x, y⟩ r hx hp hr
    rw [List.getElem?_zip_eq_some] at hx
    obtain ⟨hx, hy⟩ := hx
    obtain ⟨ke, ne, se, ise, nse⟩ := x
    obtain ⟨kf, nf, sf, isf, nsf⟩ := y
    have hi := (List.getElem?_eq_some_iff.1 hx).1
    have hm := List.mem_of_getElem? hx
    have hm2 := List.mem_of_getElem? hy
    exact Tl ke ne se ise nse kf nf sf isf nsf (by rw [Ah]; exact dlt hi) hx hy (ih _ hm (his _ hm) _ (hisp _ hm2)) hp (by rw [nx (by omega)]; exact hr))
  (by
    have e : (is.zip isp).length = is.length := by simp; omega
    rw [e]
    exact Vb (by rw [Ah]; exact dlt_n))
 have l1 := fun (hl : ns.length = nsp.length) => Fj (lp := lp) (k := 0) (L := Aj Gk 1) (fun i => tl 0 81 [(2, .ptr 0 0 0), (3, .ptr 1 0 0), (6, .p (.int .i64 (i : Int)))]) [.row [[.p (.int .i64 k), .p (.int .i64 n), .p (.str s), .p (.sl (Ac is)), .p (.sl (Ab ns))]], .row [[.p (.int .i64 kp), .p (.int .i64 np), .p (.str sp), .p (.sl (Ac isp)), .p (.sl (Ab nsp))]]] (ns.zip nsp) (fun p => p.1 == p.2)
  (rF := (.ret, tl 0 81 [(4, .p (.bool false))], [.row [[.p (.int .i64 k), .p (.int .i64 n), .p (.str s), .p (.sl (Ac is)), .p (.sl (Ab ns))]], .row [[.p (.int .i64 kp), .p (.int .i64 np), .p (.str sp), .p (.sl (Ac isp)), .p (.sl (Ab nsp))]]]))
  (rT := (.exit 2, tl 0 81 [], [.row [[.p (.int .i64 k), .p (.int .i64 n), .p (.str s), .p (.sl (Ac is)), .p (.sl (Ab ns))]], .row [[.p (.int .i64 kp), .p (.int .i64 np), .p (.str sp), .p (.sl (Ac isp)), .p (.sl (Ab nsp))]]]))
  (by
    rintro i ⟨x, y⟩ hx hp
    rw [List.getElem?_zip_eq_some] at hx
    obtain ⟨hx, hy⟩ := hx
    obtain ⟨hi, rfl⟩ := List.getElem?_eq_some_iff.1 hx
    obtain ⟨hj, rfl⟩ := List.getElem?_eq_some_iff.1 hy
    have e : ns.getD i [] = ns[i] := by rw [List.getD, List.getElem?_eq_getElem hi]; rfl
    have e2 : nsp.getD i [] = nsp[i] := by rw [List.getD, List.getElem?_eq_getElem hj]; rfl
    exact To (by rw [Ak]; exact dlt hi) hi hj (by rw [e, e2]; exact hp))
  (by
    rintro i ⟨x, y⟩ r hx hp hr
    rw [List.getElem?_zip_eq_some] at hx
    obtain ⟨hx, hy⟩ := hx
    obtain ⟨hi, rfl⟩ := List.getElem?_eq_some_iff.1 hx
    obtain ⟨hj, rfl⟩ := List.getElem?_eq_some_iff.1 hy
    have e : ns.getD i [] = ns[i] := by rw [List.getD, List.getElem?_eq_getElem hi]; rfl
    have e2 : nsp.getD i [] = nsp[i] := by rw [List.getD, List.getElem?_eq_getElem hj]; rfl
    exact Tn (by rw [Ak]; exact dlt hi) hi hj (by rw [e, e2]; exact hp) (by rw [nx (by omega)]; exact hr))
  (by
    have e : (ns.zip nsp).length = ns.length := by simp; omega
    rw [e]
    exact Vc (by rw [Ak]; exact dlt_n))
 have z0 : ((List.length (Ac is) : Nat) : Int) = ((List.length (Ac isp) : Nat) : Int) → is.length = isp.length := by rw [Ah, Ah]; omega
 have z1 : ((List.length (Ab ns) : Nat) : Int) = ((List.length (Ab nsp) : Nat) : Int) → ns.length = nsp.length := by rw [Ak, Ak]; omega
 have h := @rSam0 k n s is ns kp np sp isp nsp (fun _ _ _ hq _ hc => by have := l0 (z0 (eq_of_beq hq)); rw [Jn _ _ (z0 (eq_of_beq hq)), hc] at this; exact this) (fun _ _ _ _ hq _ hc => by have := l1 (z1 (eq_of_beq hq)); rw [Jo _ _ (z1 (eq_of_beq hq)), hc] at this; exact this) (fun _ _ _ _ hq _ hc => by have := l1 (z1 (eq_of_beq hq)); rw [Jo _ _ (z1 (eq_of_beq hq)), hc] at this; exact this) (fun _ _ _ hq _ hc => by have := l0 (z0 (eq_of_beq hq)); rw [Jn _ _ (z0 (eq_of_beq hq)), hc] at this; exact this)
 refine ifE h ?_
 simp only [Do]
 by_cases c1 : k = kp
 ·by_cases c2 : n = np
  ·by_cases c3 : s = sp
   ·by_cases c4 : is.length = isp.length
    ·by_cases c5 : ns.length = nsp.length
     ·cases hc : Dp is isp <;> cases hd : (ns == nsp) <;> simp [c1, c2, c3, c4, c5, hc, hd, Ah, Ak]
     ·have : (ns == nsp) = false := by rw [beq_eq_false_iff_ne]; intro h; exact c5 (by rw [h])
      have c5' : ¬ ((ns.length : Int) = nsp.length) := by omega
      simp [c1, c2, c3, c4, c5', Ah, Ak, this]
    ·have : Dp is isp = false := by
      cases hc : Dp is isp with
      | false => rfl
      | true => exact absurd (M1 _ _ hc) c4
     have c4' : ¬ ((is.length : Int) = isp.length) := by omega
     simp [c1, c2, c3, c4', Ah, Ak, this]
   ·simp [c1, c2, c3]
  ·simp [c1, c2]
 ·simp [c1]
end Go.Proofs.Ytpkmddkodchanaa

import Derived.Test.YtegboccilfofmaaGreatLsSpcW4
set_option linter.unusedVariables false
set_option maxRecDepth 100000
set_option linter.unusedSimpArgs false
namespace Go.Proofs.YtegboccilfofmaaGreat
open Go Go.LS
theorem vcode_len {u : Nat} (h : u < 2 ^ 64) : (Ae u).length ≤ 10 := by
 rw [Ju, List.length_append]
 have := Hp h
 simp; omega
theorem Ic {α : Type} (f : α → List UInt8) : ∀ (l : List α) (b : List UInt8), l.foldl (fun b x => b ++ f x) b = b ++ (l.map f).flatten := by
 intro l
 induction l with
 | nil => intro b; simp
 | cons x r ih => intro b; rw [List.foldl_cons, ih]; simp
theorem Ry {α : Type} (f : α → List UInt8) (B : Nat) : ∀ (l : List α), (∀ x ∈ l, (f x).length ≤ B) → ((l.map f).flatten).length ≤ B * l.length := by
 intro l
 induction l with
 | nil => intro h; simp
 | cons x r ih =>
  intro h
  have h1 := h x (by simp)
  have h2 := ih (fun y hy => h y (by simp [hy]))
  simp only [List.map_cons, List.flatten_cons, List.length_append, List.length_cons]
  rw [Nat.mul_succ]; omega
theorem Fi {p : Pt} (h : Bi p = true) : ∀ x ∈ p, x.length ≤ 32 := by
 simp only [Bi, Bool.and_eq_true] at h
 exact fun x hx => O5 (List.all_eq_true.1 h.2 x hx)
theorem F8 {p : Pt} (h : Bi p = true) : (A6 p).length ≤ 400 := by
 have h1 := (Er h).2
 have h2 := Fi h
 have h3 := vcode_len (u := p.length) (by omega)
 have h4 := Ry (fun s : List UInt8 => Ae s.length ++ s) 42 p (fun x hx => by have := h2 x hx; have := vcode_len (u := x.length) (by omega); rw [List.length_append]; omega)
 rw [A6, List.length_append]
 omega
theorem Zu {L : List UInt8} {p : Pt} (hp : Bi p = true) (hL : L.length ≤ 155000000000000) : Runs lp 26 [.sl (bs L) 0 (List.length L), .p (.sl (Aa p))] [.spare 1 (List.length L)] (.sl (bs (L ++ A6 p)) 0 (List.length (L ++ A6 p)), [.spare 1 (List.length (L ++ A6 p))]) := by
 have h1 := (Er hp).2
 have h2 := Fi hp
 have l := B2 (lp := lp) (k := 1) (L := Ab Q4 0) (fun i (b : List UInt8) => (tl 0 30 [(0, .sl (bs b) 0 (List.length b)), (18, .p (.sl (Aa p))), (19, .p (.int .i64 ((List.length (Aa p) : Nat) : Int))), (20, .p (.int .i64 (i : Int)))])) (fun _ b => [.spare 1 (List.length b)]) p (fun b s => b ++ (Ae s.length ++ s)) (fun b => (.exit 0, (tl 0 30 [(0, .sl (bs b) 0 (List.length b))]), [.spare 1 (List.length b)])) (fun i b => b.length ≤ 155000000000100 + 50 * i)
  (by
    intro i b x r hx hb
    have hi := De hx
    have e := Db hx
    have hm := h2 _ (List.mem_of_getElem? hx)
    have hv := vcode_len (u := x.length) (by omega)
    refine ⟨by simp only [List.length_append]; omega, fun hr => ?_⟩
    exact sStR_y (by rw [Ao]; exact dlt hi) hi (by rw [e]; exact H4 (by simp [reachBytes]; omega)) (by rw [e]; simp only [List.length_append]; omega) (by rw [nx (by omega), e]; exact hr))
  (by
    intro b hb
    exact sStR_n (by rw [Ao]; exact B4)) (L ++ Ae p.length) (by have := vcode_len (u := p.length) (by omega); rw [List.length_append]; omega)
 rw [Ic, List.append_assoc] at l
 refine sSt0 (by rw [Ao]; exact E3 (by omega)) (by rw [Ao]; have := vcode_len (u := p.length) (by omega); omega) ?_
 rw [Ao]
 rw [Ao] at l
 exact l
theorem Zv {p : Pt} (hp : Bi p = true) : Runs lp 33 [.p (.sl (Aa p))] [] (.p (.sl (bs (A6 p))), []) := by
 have h1 := (Er hp).2
 have h2 := Fi hp
 have l := B2 (lp := lp) (k := 0) (L := Ab Q5 0) (fun i (b : List UInt8) => (tl 0 22 [(0, .p (.sl (Aa p))), (3, .sl (bs b) 0 (List.length b)), (4, .p (.int .i64 (i : Int)))])) (fun _ b => [.spare 1 (List.length b)]) p (fun b s => b ++ (Ae s.length ++ s)) (fun b => (.exit 0, (tl 0 22 [(3, .sl (bs b) 0 (List.length b))]), [.spare 1 (List.length b)])) (fun i b => b.length ≤ 100 + 50 * i)
  (by
    intro i b x r hx hb
    have hi := De hx
    have e := Db hx
    have hm := h2 _ (List.mem_of_getElem? hx)
    have hv := vcode_len (u := x.length) (by omega)
    refine ⟨by simp only [List.length_append]; omega, fun hr => ?_⟩
    exact rStR_y (by rw [Ao]; exact dlt hi) hi (by rw [e]; exact Dn (by simp [reachBytes]; omega)) (by rw [e]; simp only [List.length_append]; omega) (by rw [nx (by omega), e]; exact hr))
  (by
    intro b hb
    exact rStR_n (by rw [Ao]; exact B4)) (Ae p.length) (by have := vcode_len (u := p.length) (by omega); omega)
 rw [Ic] at l
 refine rSt0 (by rw [Ao]; exact Da (by omega)) ?_
 rw [Ao]
 exact l
theorem J7 {o : OpS} (h : Bt o = true) : Bi o.p = true ∧ ((o.k == 6) = true → Bi o.t = true) := by
 simp only [Bt, Bool.and_eq_true] at h
 refine ⟨h.1, fun h6 => ?_⟩
 have h2 := h.2
 have e : o.k = 6 := eq_of_beq h6
 rw [e] at h2
 simp only [show ((6 : Int) == 2) = false from rfl, show ((6 : Int) == 6) = true from rfl, if_true, Bool.false_eq_true, if_false, Bool.and_eq_true] at h2
 exact h2.2
theorem J8 {o : OpS} (h : Bt o = true) (h2 : (o.k == 2) = false) (h6 : (o.k == 6) = false) : Av o.v = 0 := by
 simp only [Bt, Bool.and_eq_true, h2, h6, Bool.false_eq_true, if_false] at h
 have h' := h.2
 by_cases h3 : (o.k == 3) = true
 ·rw [if_pos h3] at h'; simp only [Bool.and_eq_true] at h'; exact eq_of_beq h'.1.2
 ·rw [if_neg h3] at h'
  split at h'
  ·simp only [Bool.and_eq_true] at h'; exact eq_of_beq h'.1
  ·cases h'
theorem vPut7 {v : Val} (hok : okV v) (hd : Ay v ≤ 1000000) (hs : Bk v = Bu v) (hc : Av v = 0) {L : List UInt8} (hne : L ≠ []) (hl : L.length ≤ 160000000000000) : Runs lp 24 [.p (.sl (bs L)), D4 v] [] (.sl (bs (L ++ Az v)) 0 (List.length (L ++ Az v)), [.spare 1 (List.length (L ++ Az v))]) := by
 have hk := Pu _ hok hd
 have hp := vPut _ hok (Fa hc).1 L (by have := Fb hc hs; omega)
 obtain ⟨k, n, s, is, ns⟩ := v
 refine ifE (vPuA hne (vClB hne (by simp only [List.length_nil]; omega)) hk (fun _ => hp)) ?_
 rw [if_pos (by rw [hc]; rfl)]
def okC (o : OpS) : Prop := okO o ∧ Bk o.v = Bu o.v
theorem Nm {o : OpS} (h : Bt o = true) (ho : okC o) : (Cj o).length ≤ 5000 := by
 have h1 := F8 (J7 h).1
 unfold Cj
 rw [List.length_append, List.length_cons]
 by_cases h2 : (o.k == 2) = true
 ·rw [if_pos h2]; simp; omega
 ·rw [if_neg h2]
  by_cases h6 : (o.k == 6) = true
  ·rw [if_pos h6]; have := F8 ((J7 h).2 h6); omega
  ·rw [if_neg h6]; have := Fb (J8 h (by simpa using h2) (by simpa using h6)) ho.2; omega
theorem u8c (x : Int) : UInt8.ofNat (Int.toNat (IntKind.wrap .u8 x)) = u8 x := rfl
theorem appNe (a b : List UInt8) (x : UInt8) : a ++ [x] ++ b ≠ [] := by simp
theorem sPutL {ops : List OpS} {X : List UInt8} (hX : X.length ≤ 150000000000000) (hl : ops.length ≤ 1000) (ho : ∀ o ∈ ops, okC o) (hm : ops.all Bt = true) : LoopN lp 0 (Ab lf7 0) (tl 0 69 [(0, .sl (bs X) 0 (List.length X)), (38, .p (.sl (Ai ops))), (39, .p (.int .i64 ((List.length (Ai ops) : Nat) : Int))), (40, .p (.int .i64 0))]) [.spare 1 (List.length X)] (.exit 1, (tl 0 69 [(0, .sl (bs (X ++ (List.map Cj ops).flatten)) 0 (List.length (X ++ (List.map Cj ops).flatten)))]), [.spare 1 (List.length (X ++ (List.map Cj ops).flatten))]) := by
 have l := B2 (lp := lp) (k := 0) (L := Ab lf7 0) (fun i (b : List UInt8) => (tl 0 69 [(0, .sl (bs b) 0 (List.length b)), (38, .p (.sl (Ai ops))), (39, .p (.int .i64 ((List.length (Ai ops) : Nat) : Int))), (40, .p (.int .i64 (i : Int)))])) (fun _ b => [.spare 1 (List.length b)]) ops (fun b o => b ++ Cj o) (fun b => (.exit 1, (tl 0 69 [(0, .sl (bs b) 0 (List.length b))]), [.spare 1 (List.length b)])) (fun i b => b.length ≤ 150000000000000 + 5000 * i)
  (by
    intro i b o r hx hb
    have hi := De hx
    have hmo := List.all_eq_true.1 hm o (List.mem_of_getElem? hx)
    have hoo := ho o (List.mem_of_getElem? hx)
    have hp := J7 hmo
    have hlen := Nm hmo hoo
    refine ⟨by simp only [List.length_append]; omega, fun hr => ?_⟩
    obtain ⟨ok, ps, ⟨vk, vn, vs, vi, vns⟩, ts⟩ := o
    have h1 := F8 hp.1
    have s1 := Zu (L := b ++ [u8 ok]) hp.1 (by simp only [List.length_append, List.length_singleton]; omega)
    by_cases h2 : (ok == 2) = true
    ·refine sPuR_yy _ _ _ _ _ _ _ _ (by rw [At]; exact dlt hi) hx (by simp only [List.length_singleton]; omega) s1 h2 ?_
     have e : Cj ⟨ok, ps, .mk vk vn vs vi vns, ts⟩ = u8 ok :: A6 ps := by unfold Cj; rw [if_pos h2, List.append_nil]
     rw [e] at hr
     rw [nx (by omega), u8c, List.append_assoc, List.singleton_append]
     exact hr
    ·have h2' : (ok == 2) = false := by simpa using h2
     by_cases h6 : (ok == 6) = true
     ·have h1t := F8 (hp.2 h6)
      have s2 := Zu (L := b ++ [u8 ok] ++ A6 ps) (hp.2 h6) (by have : (A6 ps).length ≤ 400 := h1; simp only [List.length_append, List.length_singleton]; omega)
      refine Zq _ _ _ _ _ _ _ _ (by rw [At]; exact dlt hi) hx (by simp only [List.length_singleton]; omega) s1 h2' h6 s2 ?_
      have e : Cj ⟨ok, ps, .mk vk vn vs vi vns, ts⟩ = u8 ok :: (A6 ps ++ A6 ts) := by unfold Cj; rw [if_neg h2, if_pos h6]; rfl
      rw [e] at hr
      rw [nx (by omega), u8c, List.append_assoc, List.append_assoc, List.singleton_append]
      exact hr
     ·have h6' : (ok == 6) = false := by simpa using h6
      have hc := J8 hmo h2' h6'
      have s2 := vPut7 (v := .mk vk vn vs vi vns) hoo.1.2.2.1 hoo.1.2.2.2.1 hoo.2 hc (appNe b (A6 ps) (u8 ok)) (by have : (A6 ps).length ≤ 400 := h1; simp only [List.length_append, List.length_singleton]; omega)
      refine Zr _ _ _ _ _ _ _ _ (by rw [At]; exact dlt hi) hx (by simp only [List.length_singleton]; omega) s1 h2' h6' s2 ?_
      have e : Cj ⟨ok, ps, .mk vk vn vs vi vns, ts⟩ = u8 ok :: (A6 ps ++ Az (.mk vk vn vs vi vns)) := by unfold Cj; rw [if_neg h2, if_neg h6]; rfl
      rw [e] at hr
      rw [nx (by omega), u8c, List.append_assoc, List.append_assoc, List.singleton_append]
      exact hr)
  (by
    intro b hb
    exact sPuR_n (by rw [At]; exact B4)) X (by omega)
 rw [Ic] at l
 exact l
theorem Dg {rb : Bool} {v : Val} {ops : List OpS} (h : Aw rb v ops = 0) : Cg rb v ops = true := by
 rw [Ll] at h
 cases hp : Cg rb v ops with
 | true => rfl
 | false => rw [hp] at h; cases h
theorem F9 {v : Val} {ops : List OpS} (h : Cg false v ops = true) : 1 ≤ ops.length ∧ ops.length ≤ 16 ∧ ops.all Bt = true ∧ Bv v = true := by
 simp only [Cg, Bool.false_eq_true, if_false, Bool.and_eq_true, Bool.not_eq_true', decide_eq_false_iff_not] at h
 exact ⟨by omega, by omega, h.2, h.1.1.1⟩
theorem Id {v : Val} {ops : List OpS} (h : Cg true v ops = true) : ops = [] ∧ J0 v = 7 ∧ Av v = 0 := by
 simp only [Cg, if_true, Bool.and_eq_true, decide_eq_true_eq] at h
 exact ⟨List.eq_nil_of_length_eq_zero h.1.1, eq_of_beq h.1.2, eq_of_beq h.2⟩
theorem sPut (v : Val) {ops : List OpS} {rb : Bool} (hok : okV v) (hd : Ay v ≤ 1000000) (hs : Bk v = Bu v) (hl : ops.length ≤ 100000000) (ho : ∀ o ∈ ops, okC o) {L : List UInt8} (hL : L.length ≤ 141000000000000) :
  Runs lp 7 [.p (.sl (bs L)), .agg ([.p (.bool rb)] ++ (F1 v).map .p ++ [.p (.sl (Ai ops))])] [] (.p (.sl (bs (if Aw rb v ops == 0 then L ++ B5 rb v ops else L))), []) := by
 have hc := Qc v hok hd hl (fun o h => (ho o h).1) (rb := rb)
 have hdoc : Aw rb v ops = 0 → rb = true → ∀ X : List UInt8, X ≠ [] → X.length ≤ 160000000000000 → Runs lp 24 [.p (.sl (bs X)), D4 v] [] (.sl (bs (X ++ Az v)) 0 (List.length (X ++ Az v)), [.spare 1 (List.length (X ++ Az v))]) :=
  fun h hr X hx hX => vPut7 hok hd hs (Id (hr ▸ Dg h)).2.2 hx hX
 have hlp : Aw rb v ops = 0 → rb = false → ∀ X : List UInt8, X.length ≤ 150000000000000 → LoopN lp 0 (Ab lf7 0) (tl 0 69 [(0, .sl (bs X) 0 (List.length X)), (38, .p (.sl (Ai ops))), (39, .p (.int .i64 ((List.length (Ai ops) : Nat) : Int))), (40, .p (.int .i64 0))]) [.spare 1 (List.length X)] (.exit 1, (tl 0 69 [(0, .sl (bs (X ++ (List.map Cj ops).flatten)) 0 (List.length (X ++ (List.map Cj ops).flatten)))]), [.spare 1 (List.length (X ++ (List.map Cj ops).flatten))]) :=
  fun h hr X hX => by
   have := F9 (hr ▸ Dg h)
   exact sPutL hX (by omega) ho this.2.2.1
 have hcnt : Aw rb v ops = 0 → rb = false → (Ae (List.length (Ai ops))).length ≤ 10 ∧ List.length (Ai ops) ≤ 16 := fun h hr => by
  have := F9 (hr ▸ Dg h)
  rw [At]
  exact ⟨vcode_len (by omega), this.2.1⟩
 obtain ⟨k, n, s, is, ns⟩ := v
 by_cases hne : L = []
 ·subst hne
  refine ifE (sPuN vClN hc (fun _ _ => by simp) (fun h hr => hdoc (eq_of_beq h) hr _ (by simp) (by simp)) (fun h hr => E3 (by have := (hcnt (eq_of_beq h) hr).2; omega)) (fun _ _ => by simp) (fun h hr => by have := (hcnt (eq_of_beq h) hr).1; simp only [List.length_append, List.length_nil, List.length_singleton]; omega)
   (fun h hr => hlp (eq_of_beq h) hr _ (by have := (hcnt (eq_of_beq h) hr).1; simp only [List.length_append, List.length_nil, List.length_singleton]; omega))) ?_
  by_cases h0 : (Aw rb (.mk k n s is ns) ops == 0) = true
  ·rw [if_pos h0, if_pos h0]
   cases rb with
   | true => simp [B5]
   | false => simp [B5, At]
  ·rw [if_neg h0, if_neg h0]; rfl
 ·refine ifE (sPu0 hne (vClB hne (by simp only [List.length_nil]; omega)) hc (fun _ _ => by simp only [List.length_singleton]; omega) (fun h hr => hdoc (eq_of_beq h) hr _ (by simp) (by simp only [List.length_append, List.length_singleton]; omega)) (fun h hr => E3 (by have := (hcnt (eq_of_beq h) hr).2; omega))
   (fun _ _ => by simp only [List.length_singleton]; omega) (fun h hr => by have := (hcnt (eq_of_beq h) hr).1; simp only [List.length_append, List.length_singleton]; omega)
   (fun h hr => hlp (eq_of_beq h) hr _ (by have := (hcnt (eq_of_beq h) hr).1; simp only [List.length_append, List.length_singleton]; omega))) ?_
  by_cases h0 : (Aw rb (.mk k n s is ns) ops == 0) = true
  ·rw [if_pos h0, if_pos h0]
   cases rb with
   | true => simp [B5]
   | false => simp [B5, At]
  ·rw [if_neg h0, if_neg h0]
theorem Zw (v : Val) : Az v ≠ [] := by
 obtain ⟨k, n, s, is, ns⟩ := v
 have := (@I5 k n s is ns).1
 intro h; rw [h] at this; simp at this
theorem rCodeL {ops : List OpS} {X : List UInt8} {rb : Bool} {k n : Int} {s : List UInt8} {is : List Val} {ns : List (List UInt8)} (hX : X.length ≤ 1000) (hl : ops.length ≤ 1000) (ho : ∀ o ∈ ops, okC o) (hm : ops.all Bt = true) : LoopN lp 0 (Ab lf9 0) (tl 0 58 [(1, .ptr 0 0 0), (3, .sl (bs X) 1 (List.length X)), (4, .p (.int .i64 0))]) [.row [[.p (.bool rb), .p (.int .i64 k), .p (.int .i64 n), .p (.str s), (.p (.sl (Ac is))), (.p (.sl (Aa ns))), (.p (.sl (Ai ops)))]], .spare 1 (List.length X)] (.exit 0, (tl 0 58 [(3, .sl (bs (X ++ (List.map Cj ops).flatten)) 1 (List.length (X ++ (List.map Cj ops).flatten)))]), [.row [[.p (.bool rb), .p (.int .i64 k), .p (.int .i64 n), .p (.str s), (.p (.sl (Ac is))), (.p (.sl (Aa ns))), (.p (.sl (Ai ops)))]], .spare 1 (List.length (X ++ (List.map Cj ops).flatten))]) := by
 have l := B2 (lp := lp) (k := 0) (L := Ab lf9 0) (fun i (b : List UInt8) => (tl 0 58 [(1, .ptr 0 0 0), (3, .sl (bs b) 1 (List.length b)), (4, .p (.int .i64 (i : Int)))])) (fun _ b => [.row [[.p (.bool rb), .p (.int .i64 k), .p (.int .i64 n), .p (.str s), (.p (.sl (Ac is))), (.p (.sl (Aa ns))), (.p (.sl (Ai ops)))]], .spare 1 (List.length b)]) ops (fun b o => b ++ Cj o) (fun b => (.exit 0, (tl 0 58 [(3, .sl (bs b) 1 (List.length b))]), [.row [[.p (.bool rb), .p (.int .i64 k), .p (.int .i64 n), .p (.str s), (.p (.sl (Ac is))), (.p (.sl (Aa ns))), (.p (.sl (Ai ops)))]], .spare 1 (List.length b)])) (fun i b => b.length ≤ 1000 + 5000 * i)
  (by
    intro i b o r hx hb
    have hi := De hx
    have hmo := List.all_eq_true.1 hm o (List.mem_of_getElem? hx)
    have hoo := ho o (List.mem_of_getElem? hx)
    have hp := J7 hmo
    have hlen := Nm hmo hoo
    refine ⟨by simp only [List.length_append]; omega, fun hr => ?_⟩
    obtain ⟨ok, ps, ⟨vk, vn, vs, vi, vns⟩, ts⟩ := o
    have h1 : (A6 ps).length ≤ 400 := F8 hp.1
    have s1 := Zv hp.1
    by_cases h2 : (ok == 2) = true
    ·refine rCdR_yy _ _ _ _ _ _ _ _ (by rw [At]; exact dlt hi) hx (by simp only [List.length_singleton]; omega) s1 (by simp only [List.length_append, List.length_singleton]; omega) h2 ?_
     have e : Cj ⟨ok, ps, .mk vk vn vs vi vns, ts⟩ = u8 ok :: A6 ps := by unfold Cj; rw [if_pos h2, List.append_nil]
     rw [e] at hr
     rw [nx (by omega), u8c, List.append_assoc, List.singleton_append]
     exact hr
    ·have h2' : (ok == 2) = false := by simpa using h2
     by_cases h6 : (ok == 6) = true
     ·have h1t : (A6 ts).length ≤ 400 := F8 (hp.2 h6)
      refine Zs _ _ _ _ _ _ _ _ (by rw [At]; exact dlt hi) hx (by simp only [List.length_singleton]; omega) s1 (by simp only [List.length_append, List.length_singleton]; omega) h2' h6 (Zv (hp.2 h6)) (by simp only [List.length_append, List.length_singleton]; omega) ?_
      have e : Cj ⟨ok, ps, .mk vk vn vs vi vns, ts⟩ = u8 ok :: (A6 ps ++ A6 ts) := by unfold Cj; rw [if_neg h2, if_pos h6]; rfl
      rw [e] at hr
      rw [nx (by omega), u8c, List.append_assoc, List.append_assoc, List.singleton_append]
      exact hr
     ·have h6' : (ok == 6) = false := by simpa using h6
      have hc := J8 hmo h2' h6'
      have h7 : (Az (.mk vk vn vs vi vns)).length ≤ 4096 := Fb hc hoo.2
      refine Zt _ _ _ _ _ _ _ _ (by rw [At]; exact dlt hi) hx (by simp only [List.length_singleton]; omega) s1 (by simp only [List.length_append, List.length_singleton]; omega) h2' h6' (rEnc (.mk vk vn vs vi vns) hoo.1.2.2.1 (Fa hc).1 (by omega)) (by simp only [List.length_append, List.length_singleton]; omega) ?_
      have e : Cj ⟨ok, ps, .mk vk vn vs vi vns, ts⟩ = u8 ok :: (A6 ps ++ Az (.mk vk vn vs vi vns)) := by unfold Cj; rw [if_neg h2, if_neg h6]; rfl
      rw [e] at hr
      rw [nx (by omega), u8c, List.append_assoc, List.append_assoc, List.singleton_append]
      exact hr)
  (by
    intro b hb
    exact rCdR_n (ops := ops) (by rw [At]; exact B4)) X (by omega)
 rw [Ic] at l
 exact l
theorem rCode (v : Val) {ops : List OpS} {rb : Bool} (hok : okV v) (hs : Bk v = Bu v) (ho : ∀ o ∈ ops, okC o) (h0 : Aw rb v ops = 0) :
  Runs lp 9 [.agg ([.p (.bool rb)] ++ (F1 v).map .p ++ [.p (.sl (Ai ops))])] [] (.p (.sl (bs (B5 rb v ops))), []) := by
 have hp := Dg h0
 have hne := Zw v
 cases rb with
 | true =>
  have h := Id hp
  have hc := Fb h.2.2 hs
  have he := rEnc v hok (Fa h.2.2).1 (by omega)
  obtain ⟨k, n, s, is, ns⟩ := v
  refine ifE (rCd0 (fun _ => he) (fun _ => by simp only [List.length_singleton]; omega) (fun _ => hne) (fun h => by cases h) (fun h => by cases h) (fun h => by cases h) (fun h => by cases h)) ?_
  simp [B5]
 | false =>
  have h := F9 hp
  obtain ⟨k, n, s, is, ns⟩ := v
  have hv := vcode_len (u := List.length (Ai ops)) (by rw [At]; omega)
  refine ifE (rCd0 (fun h => by cases h) (fun h => by cases h) (fun h => by cases h) (fun _ => Da (by rw [At]; omega)) (fun _ => by simp only [List.length_singleton]; omega) (fun _ => F5 _) (fun _ => rCodeL (by simp only [List.length_append, List.length_singleton]; omega) (by omega) ho h.2.2.1)) ?_
  simp [B5, At]
end Go.Proofs.YtegboccilfofmaaGreat

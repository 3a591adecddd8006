import Derived.Test.YtegboccilfofmaaGreatLsSpcW5
set_option linter.unusedVariables false
set_option maxRecDepth 100000
set_option linter.unusedSimpArgs false
namespace Go.Proofs.YtegboccilfofmaaGreat
open Go Go.LS
def tGN (b : Nat) (l : Pt) : LV := if l = [] then .tight [] else .sl (Aa l) b (List.length (Aa l))
def stGN (l : Pt) : List LObj := if l = [] then [] else [.spare 1 (List.length (Aa l))]
theorem tGN_app (b : Nat) (l : Pt) (x : List UInt8) : tGN b (l ++ [x]) = .sl (Aa (l ++ [x])) b (List.length (Aa (l ++ [x]))) := if_neg (by simp)
theorem Zy (l : Pt) (x : List UInt8) : stGN (l ++ [x]) = [.spare 1 (List.length (Aa (l ++ [x])))] := if_neg (by simp)
theorem Tf {b : Nat} {l : Pt} (h : l ≠ []) : tGN b l = .sl (Aa l) b (List.length (Aa l)) := if_neg h
theorem Qg {l : Pt} (h : l ≠ []) : stGN l = [.spare 1 (List.length (Aa l))] := if_neg h
theorem pRdL {c : Int} (hc : c ≤ 8) : ∀ (j i : Nat) (ms : Pt) (x : Src), x.1.length ≤ 140737488355328 → (i : Int) + j = max c 0 → ms.length = i →
  LoopN lp 1 (Ab Lt 0) (tl 0 15 [(0, .ptr 0 0 0), (3, tGN 1 ms), (5, .p (.int .i64 c)), (6, .p (.int .i64 (i : Int)))]) (sto x ++ stGN ms) (.exit 0, (tl 0 15 [(3, tGN 1 (Gy true j ms x).1)]), sto (Gy true j ms x).2 ++ stGN (Gy true j ms x).1) := by
 intro j
 induction j with
 | zero =>
  intro i ms x hx hi hm
  have hlt : decide ((i : Int) < c) = false := decide_eq_false (by omega)
  by_cases hms : ms = []
  ·subst hms; exact pRdT_n hlt
  ·simp only [Gy]; rw [Tf hms, Qg hms]; exact pRdS_n hlt
 | succ j ih =>
  intro i ms x hx hi hm
  have hlt : decide ((i : Int) < c) = true := decide_eq_true (by omega)
  have hl := Hs x 32
  have h := ih (i + 1) (ms ++ [(Aq x 32).1]) (Aq x 32).2 (by omega) (by omega) (by simp [hm])
  rw [tGN_app, Zy] at h
  have e : Gy true (j + 1) ms x = Gy true j (ms ++ [(Aq x 32).1]) (Aq x 32).2 := by simp [Gy]
  rw [e]
  by_cases hms : ms = []
  ·subst hms
   obtain rfl : i = 0 := by simpa using hm.symm
   exact pRdT_y hlt (O1 x 32 hx) (by rw [nx (by omega)]; exact h)
  ·rw [Tf hms, Qg hms]
   exact pRdS_y hlt (O1 x 32 hx) (by omega) (by rw [nx (by omega)]; exact h)
theorem rdTs_le (p : Bool) : ∀ (j : Nat) (ms : Pt) (x : Src), (Gy p j ms x).2.1.length ≤ x.1.length := by
 intro j
 induction j with
 | zero => intro ms x; exact Nat.le_refl _
 | succ j ih =>
  intro ms x
  simp only [Gy]
  split
  ·exact Nat.le_refl _
  ·exact Nat.le_trans (ih _ _) (Hs x 32)
theorem rdTs_ok (p : Bool) : ∀ (j : Nat) (ms : Pt) (x : Src), (∀ m ∈ ms, m.length ≤ 32) → (Gy p j ms x).1.length ≤ ms.length + j ∧ ∀ m ∈ (Gy p j ms x).1, m.length ≤ 32 := by
 intro j
 induction j with
 | zero => intro ms x h; exact ⟨Nat.le_refl _, h⟩
 | succ j ih =>
  intro ms x h
  simp only [Gy]
  split
  ·exact ⟨by simp, h⟩
  ·have hl := Kz x 32 (by decide)
   obtain ⟨h1, h2⟩ := ih (ms ++ [(Aq x 32).1]) (Aq x 32).2 (by
    intro m hm
    rw [List.mem_append, List.mem_singleton] at hm
    rcases hm with hm | rfl
    ·exact h m hm
    ·omega)
   exact ⟨by simp at h1 ⊢; omega, h2⟩
theorem K1 (p : Bool) (x : Src) : (Bc p x).2.1.length ≤ x.1.length := Nat.le_trans (rdTs_le p _ _ _) (F6 x 8)
theorem O8 (p : Bool) (x : Src) : (Bc p x).1.length ≤ 8 ∧ ∀ m ∈ (Bc p x).1, m.length ≤ 32 := by
 have h := rdTs_ok p (Ar x 8).1.toNat [] (Ar x 8).2 (by simp)
 have h2 := E9 x 8 (by decide)
 exact ⟨by have := h.1; simp at this; unfold Bc; omega, h.2⟩
theorem pRd (x : Src) (hx : x.1.length ≤ 140737488355328) : Runs lp 69 [.ptr 0 0 0] (sto x) (.p (.sl (Aa (Bc true x).1)), sto (Bc true x).2) := by
 have h2 := E9 x 8 (by decide)
 have h := pRdL h2.1 (Ar x 8).1.toNat 0 [] (Ar x 8).2 (by have := F6 x 8; omega) (by omega) rfl
 have e : Gy true (Ar x 8).1.toNat [] (Ar x 8).2 = Bc true x := rfl
 rw [e] at h
 generalize Bc true x = q at *
 obtain ⟨ms, x2⟩ := q
 refine ifE (pRd0 (ms := ms) (x2 := x2) (fun b => ?_) (fun b => ?_)) ?_
 ·have b := of_decide_eq_true b
  subst b; exact h
 ·have b := of_decide_eq_false b
  simp only [] at h
  rw [Tf b, Qg b] at h; exact h
 ·by_cases b : ms = []
  ·subst b; rfl
  ·rw [if_neg (by simpa using b)]
theorem rdOp_le (p : Bool) (x : Src) (hx : x.1.length ≤ 140737488355328) : (Ga p x).2.1.length ≤ x.1.length := by
 have h1 := E8 x
 have h2 := K1 p (Af x).2
 have h3 := K1 p (Bc p (Af x).2).2
 have h4 := Zj (Bc p (Af x).2).2 (by omega)
 unfold Ga
 split
 ·simp only; omega
 ·split <;> (simp only; omega)
theorem okZ7 : okV Fj := Gr (by decide) (by decide) (by simp) (by simp) (by simp) (by simp) (by simp)
theorem rdOp_ok (p : Bool) (x : Src) : okO (Ga p x).1 := by
 have h2 := O8 p (Af x).2
 have h3 := O8 p (Bc p (Af x).2).2
 have h4 := Rv (Bc p (Af x).2).2
 have hz : Ay Fj ≤ 1000000 := by simp [Fj, Ay, Bs]
 unfold Ga
 split
 ·exact ⟨fun m hm => by have := h2.2 m hm; omega, by have := h2.1; simp only; omega, okZ7, hz, by simp, by simp⟩
 ·split
  ·exact ⟨fun m hm => by have := h2.2 m hm; omega, by have := h2.1; simp only; omega, okZ7, hz, fun m hm => by have := h3.2 m hm; omega, by have := h3.1; simp only; omega⟩
  ·exact ⟨fun m hm => by have := h2.2 m hm; omega, by have := h2.1; simp only; omega, h4.1, by have := h4.2; simp only; omega, by simp, by simp⟩
theorem oRd (x : Src) (hx : x.1.length ≤ 140737488355328) : Runs lp 38 [.ptr 0 0 0] (sto x) (.agg ((Ky (Ga true x).1).map .p), sto (Ga true x).2) := by
 have hb := E8 x
 have h1 := pRd (Af x).2 (by omega)
 have hq := K1 true (Af x).2
 have h2 := pRd (Bc true (Af x).2).2 (by omega)
 have h3 := vRd8 (Bc true (Af x).2).2 (by omega)
 unfold Ga
 generalize Ek (Bc true (Af x).2).2 = q at *
 obtain ⟨⟨k, n, s, is, ns⟩, x3⟩ := q
 refine ifE (oRd0 h1 (fun _ _ => h2) (fun _ _ => h3)) ?_
 split
 ·rfl
 ·split <;> rfl
def tGO (b : Nat) (l : List OpS) : LV := if l = [] then .tight [] else .sl (Ai l) b (List.length (Ai l))
def stGO (l : List OpS) : List LObj := if l = [] then [] else [.spare 8 (List.length (Ai l))]
theorem tGO_ne {b : Nat} {l : List OpS} (h : l ≠ []) : tGO b l = .sl (Ai l) b (List.length (Ai l)) := if_neg h
theorem stGO_ne {l : List OpS} (h : l ≠ []) : stGO l = [.spare 8 (List.length (Ai l))] := if_neg h
def stX (x : Src) (l : List OpS) : List LObj := sto x ++ [.row [[.p (.bool false), .p (.int .i64 0), .p (.int .i64 0), .p (.str []), (.tight []), (.tight []), (.tight [])]], .row [[.p (.bool false), .p (.int .i64 0), .p (.int .i64 0), .p (.str []), (.tight []), (.tight []), tGO 3 l]]] ++ stGO l
theorem Np {x : Src} {l : List OpS} (h : l ≠ []) : stX x l = sto x ++ [.row [[.p (.bool false), .p (.int .i64 0), .p (.int .i64 0), .p (.str []), (.tight []), (.tight []), (.tight [])]], .row [[.p (.bool false), .p (.int .i64 0), .p (.int .i64 0), .p (.str []), (.tight []), (.tight []), (.sl (Ai l) 3 (List.length (Ai l)))]]] ++ [.spare 8 (List.length (Ai l))] := by rw [stX, tGO_ne h, stGO_ne h]
theorem O9 (p : Bool) (l : List OpS) {x : Src} (h : x.2 = true) : ∀ j, D1 p j l x = (l, x)
 | 0 => rfl
 | j + 1 => by simp [D1, h]
theorem sRdL {c : Int} (hc : c ≤ 16) : ∀ (j i : Nat) (l : List OpS) (x : Src), x.1.length ≤ 140737488355328 → (i : Int) + j = max c 0 → (x.2 = false → l.length = i) →
  LoopN lp 1 (Ab If 0) (tl 0 42 [(0, .ptr 0 0 0), (2, .ptr 1 0 0), (3, .ptr 2 0 0), (11, .p (.int .i64 c)), (12, .p (.int .i64 (i : Int)))]) (stX x l) (.exit 1, (tl 0 42 [(0, .ptr 0 0 0), (2, .ptr 1 0 0), (3, .ptr 2 0 0)]), stX (D1 true j l x).2 (D1 true j l x).1) := by
 intro j
 induction j with
 | zero =>
  intro i l x hx hi hm
  have hlt : decide ((i : Int) < c) = false := decide_eq_false (by omega)
  by_cases hl : l = []
  ·subst hl; exact sRdT_n hlt
  ·simp only [D1]; rw [Np hl]; exact sRdS_n hlt
 | succ j ih =>
  intro i l x hx hi hm
  have hlt : decide ((i : Int) < c) = true := decide_eq_true (by omega)
  cases hb : x.2 with
  | true =>
   have h := ih (i + 1) l x hx (by omega) (fun h => by rw [hb] at h; cases h)
   rw [O9 true l hb] at h
   rw [O9 true l hb]
   by_cases hl : l = []
   ·subst hl; exact sRdT_yn hlt (by rw [hb]; rfl) (by rw [nx (by omega)]; exact h)
   ·rw [Np hl] at h ⊢; exact sRdS_yn hlt (by rw [hb]; rfl) (by rw [nx (by omega)]; exact h)
  | false =>
   have ho := oRd x hx
   have hle := rdOp_le true x hx
   have hml := hm hb
   have h := ih (i + 1) (l ++ [(Ga true x).1]) (Ga true x).2 (by omega) (by omega) (fun _ => by simp [hml])
   have e : D1 true (j + 1) l x = D1 true j (l ++ [(Ga true x).1]) (Ga true x).2 := by simp [D1, hb]
   rw [e]
   rw [Np (by simp)] at h
   generalize Ga true x = q at *
   obtain ⟨⟨ok, ps, ⟨vk, vn, vs, vi, vns⟩, ts⟩, x2⟩ := q
   by_cases hl : l = []
   ·subst hl
    exact sRdT_yy ok vk vn vs vi ps vns ts x2 hlt (by rw [hb]; rfl) ho (by rw [nx (by omega)]; exact h)
   ·rw [Np hl]
    exact sRdS_yy ok vk vn vs vi ps vns ts x2 hlt (by rw [hb]; rfl) ho (by omega) (by rw [nx (by omega)]; exact h)
theorem Zz (p : Bool) : ∀ (j : Nat) (l : List OpS) (x : Src), (∀ o ∈ l, okO o) → (D1 p j l x).1.length ≤ l.length + j ∧ ∀ o ∈ (D1 p j l x).1, okO o := by
 intro j
 induction j with
 | zero => intro l x h; exact ⟨Nat.le_refl _, h⟩
 | succ j ih =>
  intro l x h
  simp only [D1]
  split
  ·exact ⟨by simp, h⟩
  ·obtain ⟨h1, h2⟩ := ih (l ++ [(Ga p x).1]) (Ga p x).2 (by
    intro o ho
    rw [List.mem_append, List.mem_singleton] at ho
    rcases ho with ho | rfl
    ·exact h o ho
    ·exact rdOp_ok p x)
   exact ⟨by simp at h1 ⊢; omega, h2⟩
def Ir (q : SpS) : LV := .agg ([.p (.bool q.r)] ++ (F1 q.d).map .p ++ [.p (.sl (Ai q.o))])
def okSp (q : SpS) : Prop := okV q.d ∧ Ay q.d ≤ 1000000 ∧ q.o.length ≤ 50 ∧ ∀ o ∈ q.o, okO o
theorem Ul (q : SpS) (x2 : Src) : Zx (q, x2) = if (x2.2) = true then (O7, (x2.1, true)) else if (Aw q.r q.d q.o == 0) = true then (q, x2) else (O7, (x2.1, true)) := by
 unfold Zx
 simp only []
 cases x2.2 with
 | true => rfl
 | false => cases h : (Aw q.r q.d q.o == 0) <;> rfl
theorem Tg {c1 c2 : Bool} {x2 : Src} {q : SpS} {a : LV × List LObj} (ha : a = (Ir q, sto x2)) (hc : (Aw q.r q.d q.o == 0) = c2) (h1 : x2.2 = c1) :
  (if c1 = true then (Ir O7, sto (x2.1, true)) else if c2 = true then a else (Ir O7, sto (x2.1, true))) = (Ir (Zx (q, x2)).1, sto (Zx (q, x2)).2) := by
 rw [Ul, hc, h1, ha]
 cases c1 <;> cases c2 <;> rfl
theorem sRd (x : Src) (hx : x.1.length ≤ 140737488355328) : Runs lp 12 [.ptr 0 0 0] (sto x) (Ir (No true x).1, sto (No true x).2) := by
 have hb := E8 x
 have hcl := F6 (Af x).2 16
 have hcm := E9 (Af x).2 16 (by decide)
 have hv := vRd8 (Af x).2 (by omega)
 have hvo := Rv (Af x).2
 have hl := sRdL hcm.1 (Ar (Af x).2 16).1.toNat 0 [] (Ar (Af x).2 16).2 (by omega) (by omega) (fun _ => rfl)
 have hlo := Zz true (Ar (Af x).2 16).1.toNat [] (Ar (Af x).2 16).2 (by simp)
 unfold No Nn
 cases h0 : ((Af x).1 == 0) with
 | true =>
  generalize D1 true (Ar (Af x).2 16).1.toNat [] (Ar (Af x).2 16).2 = q at *
  obtain ⟨l, x2⟩ := q
  have hck := Qc Fj (ops := l) (rb := false) okZ7 (by simp [Fj, Ay, Bs]) (by have := hlo.1; simp at this; omega) hlo.2
  refine ifE (sRd0 (k := 0) (n := 0) (s := []) (is := []) (ns := []) (x2 := x2) (l := l) (fun _ b => ?_) (fun _ b _ => ?_) (fun _ b => ?_) (fun _ b _ => hck) (fun h => by rw [h0] at h; cases h) (fun h => by rw [h0] at h; cases h)) ?_
  ·have b := of_decide_eq_true b
   subst b; exact hl
  ·have b := of_decide_eq_true b
   subst b; exact hck
  ·have b := of_decide_eq_false b
   simp only [] at hl
   rw [Np b] at hl; exact hl
  ·rw [if_pos h0, if_pos rfl]
   by_cases b : l = []
   ·subst b
    rw [if_pos (by simp)]
    exact Tg (x2 := x2) (q := ⟨false, Fj, []⟩) rfl rfl rfl
   ·rw [if_neg (by simpa using b)]
    exact Tg (x2 := x2) (q := ⟨false, Fj, l⟩) rfl rfl rfl
 | false =>
  cases h1 : ((Af x).1 == 1) with
  | true =>
   generalize Ek (Af x).2 = q at *
   obtain ⟨⟨k, n, s, is, ns⟩, x2⟩ := q
   have hck := Qc (.mk k n s is ns) (ops := []) (rb := true) hvo.1 (by have := hvo.2; simp only at this; omega) (by simp) (by simp)
   refine ifE (sRd0 (x2 := x2) (l := []) (fun h => by rw [h0] at h; cases h) (fun h => by rw [h0] at h; cases h) (fun h => by rw [h0] at h; cases h) (fun h => by rw [h0] at h; cases h) (fun _ _ => hv) (fun _ _ _ => hck)) ?_
   rw [if_neg (by rw [h0]; decide), if_pos h1]
   simp only [Bool.false_eq_true, if_false, if_true]
   exact Tg (x2 := x2) (q := ⟨true, .mk k n s is ns, []⟩) rfl rfl rfl
  | false =>
   refine ifE (sRd0 (k := 0) (n := 0) (s := []) (is := []) (ns := []) (x2 := x) (l := []) (fun h => by rw [h0] at h; cases h) (fun h => by rw [h0] at h; cases h) (fun h => by rw [h0] at h; cases h) (fun h => by rw [h0] at h; cases h) (fun _ h => by rw [h1] at h; cases h) (fun _ h => by rw [h1] at h; cases h)) ?_
   rw [if_neg (by rw [h0]; decide), if_neg (by rw [h1]; decide), if_neg (by decide), if_neg (by decide)]
   rfl
theorem Vq (p : Bool) : ∀ (l : Pt) (ms : Pt) (rest : List UInt8), (∀ x ∈ l, x.length ≤ 32) → Gy p l.length ms ((l.map fun s => Ae s.length ++ s).flatten ++ rest, false) = (ms ++ l, (rest, false)) := by
 intro l
 induction l with
 | nil => intro ms rest h; simp [Gy]
 | cons s r ih =>
  intro ms rest h
  have hs := h s (by simp)
  have e := Gq (s := s) (most := 32) (by omega) (by omega) ((r.map fun s => Ae s.length ++ s).flatten ++ rest)
  simp only [List.length_cons, List.map_cons, List.flatten_cons, Gy, List.append_assoc] at e ⊢
  rw [if_neg (by simp), e]
  rw [ih (ms ++ [s]) rest (fun x hx => h x (by simp [hx]))]
  simp
theorem Fk (p : Bool) {l : Pt} (h : Bi l = true) (rest : List UInt8) : Bc p (A6 l ++ rest, false) = (l, (rest, false)) := by
 have h1 := (Er h).2
 have e := Fg (n := l.length) (most := 8) (by omega) (by omega) ((l.map fun s => Ae s.length ++ s).flatten ++ rest)
 unfold Bc A6
 rw [List.append_assoc, e]
 have := Vq p l [] rest (Fi h)
 simpa using this
theorem I6 {v : Val} (h : Bv v = true) : v = Fj := by
 obtain ⟨k, n, s, is, ns⟩ := v
 simp only [Bv, Bool.and_eq_true, beq_iff_eq, decide_eq_true_eq] at h
 obtain ⟨⟨⟨h1, h2⟩, h3⟩, h4⟩ := h
 have h5 : is = [] := List.eq_nil_of_length_eq_zero (by omega)
 have h6 : ns = [] := List.eq_nil_of_length_eq_zero (by omega)
 subst h1 h2 h3 h5 h6; rfl
theorem Vr {o : OpS} (h : Bt o = true) : 0 ≤ o.k ∧ o.k ≤ 255 := by
 simp only [Bt, Bool.and_eq_true] at h
 have h' := h.2
 by_cases h2 : o.k = 2
 ·omega
 by_cases h6 : o.k = 6
 ·omega
 by_cases h3 : o.k = 3
 ·omega
 rw [if_neg (by simpa using h2), if_neg (by simpa using h6), if_neg (by simpa using h3)] at h'
 split at h'
 ·rename_i hh; simp only [Bool.or_eq_true, beq_iff_eq] at hh; omega
 ·cases h'
theorem Vs {o : OpS} (h : Bt o = true) : ((o.k == 2) = true → o.v = Fj ∧ o.t = []) ∧ ((o.k == 6) = true → o.v = Fj) ∧ ((o.k == 2) = false → (o.k == 6) = false → o.t = []) := by
 simp only [Bt, Bool.and_eq_true] at h
 have h' := h.2
 refine ⟨fun h2 => ?_, fun h6 => ?_, fun h2 h6 => ?_⟩
 ·rw [if_pos h2] at h'; simp only [Bool.and_eq_true, decide_eq_true_eq] at h'; exact ⟨I6 h'.1, List.eq_nil_of_length_eq_zero h'.2⟩
 ·rw [if_neg (by rw [eq_of_beq h6]; decide), if_pos h6] at h'; simp only [Bool.and_eq_true] at h'; exact I6 h'.1
 ·rw [if_neg (by rw [h2]; decide), if_neg (by rw [h6]; decide)] at h'
  split at h'
  ·simp only [Bool.and_eq_true, decide_eq_true_eq] at h'; exact List.eq_nil_of_length_eq_zero h'.2
  ·split at h'
   ·simp only [Bool.and_eq_true, decide_eq_true_eq] at h'; exact List.eq_nil_of_length_eq_zero h'.2
   ·cases h'
theorem Vt (p : Bool) {o : OpS} (h : Bt o = true) (ho : okC o) (rest : List UInt8) : Ga p (Cj o ++ rest, false) = (o, (rest, false)) := by
 have hp := J7 h
 have hr := Vs h
 obtain ⟨k, ps, v, ts⟩ := o
 have hk := Vr h
 simp only at hp hr hk
 by_cases h2 : (k == 2) = true
 ·have e : Cj ⟨k, ps, v, ts⟩ ++ rest = u8 k :: (A6 ps ++ rest) := by unfold Cj; rw [if_pos h2]; simp
  rw [e]; unfold Ga
  rw [Cc hk]
  simp only [if_pos h2]
  rw [Fk p hp.1, (hr.1 h2).1, (hr.1 h2).2]
 ·have h2' : (k == 2) = false := by simpa using h2
  by_cases h6 : (k == 6) = true
  ·have e : Cj ⟨k, ps, v, ts⟩ ++ rest = u8 k :: (A6 ps ++ (A6 ts ++ rest)) := by unfold Cj; rw [if_neg h2, if_pos h6]; simp
   rw [e]; unfold Ga
   rw [Cc hk]
   simp only [h2', h6, Bool.false_eq_true, if_false, if_true]
   rw [Fk p hp.1, Fk p (hp.2 h6), hr.2.1 h6]
  ·have h6' : (k == 6) = false := by simpa using h6
   have e : Cj ⟨k, ps, v, ts⟩ ++ rest = u8 k :: (A6 ps ++ (Az v ++ rest)) := by unfold Cj; rw [if_neg h2, if_neg h6]; simp
   rw [e]; unfold Ga
   rw [Cc hk]
   simp only [h2', h6', Bool.false_eq_true, if_false]
   rw [Fk p hp.1, O6 ho.1.2.2.1 (J8 h h2' h6') ho.2, hr.2.2 h2' h6']
theorem Th (p : Bool) : ∀ (l : List OpS) (l0 : List OpS) (rest : List UInt8), (∀ o ∈ l, Bt o = true ∧ okC o) → D1 p l.length l0 ((l.map Cj).flatten ++ rest, false) = (l0 ++ l, (rest, false)) := by
 intro l
 induction l with
 | nil => intro l0 rest h; simp [D1]
 | cons o r ih =>
  intro l0 rest h
  have ho := h o (by simp)
  have e := Vt p ho.1 ho.2 ((r.map Cj).flatten ++ rest)
  simp only [List.length_cons, List.map_cons, List.flatten_cons, D1, List.append_assoc] at e ⊢
  rw [if_neg (by simp), e]
  simp only []
  rw [ih (l0 ++ [o]) rest (fun x hx => h x (by simp [hx]))]
  simp
theorem Rz (p : Bool) {q : SpS} (hok : okSp q) (hs : Bk q.d = Bu q.d) (ho : ∀ o ∈ q.o, okC o) (h0 : Aw q.r q.d q.o = 0) (rest : List UInt8) : No p (B5 q.r q.d q.o ++ rest, false) = (q, (rest, false)) := by
 have hp := Dg h0
 obtain ⟨r, d, o⟩ := q
 simp only at hp hs ho h0
 have hb : Nn p (B5 r d o ++ rest, false) = (⟨r, d, o⟩, (rest, false)) := by
  cases r with
  | true =>
   have h := Id hp
   obtain ⟨rfl, h7, hc⟩ := h
   have e : B5 true d [] ++ rest = u8 1 :: (Az d ++ rest) := by simp [B5]; rfl
   rw [e]; unfold Nn
   rw [Cc (by decide)]
   simp only [show ((1 : Int) == 0) = false from rfl, show ((1 : Int) == 1) = true from rfl, Bool.false_eq_true, if_false, if_true]
   rw [O6 hok.1 hc hs]
  | false =>
   have h := F9 hp
   have e : B5 false d o ++ rest = u8 0 :: (Ae o.length ++ ((o.map Cj).flatten ++ rest)) := by simp [B5]; rfl
   rw [e]; unfold Nn
   rw [Cc (by decide)]
   simp only [show ((0 : Int) == 0) = true from rfl, if_true]
   rw [Fg (by omega) (by omega)]
   simp only [Int.toNat_natCast]
   rw [Th p o [] rest (fun x hx => ⟨List.all_eq_true.1 h.2.2.1 x hx, ho x hx⟩), I6 h.2.2.2]
   simp
 unfold No
 rw [hb, Ul]
 simp only [h0]
 rfl
end Go.Proofs.YtegboccilfofmaaGreat

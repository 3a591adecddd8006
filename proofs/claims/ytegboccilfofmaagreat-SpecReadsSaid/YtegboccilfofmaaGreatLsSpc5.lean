import Derived.Test.YtegboccilfofmaaGreatLsSpcW5
set_option linter.unusedVariables false
set_option maxRecDepth 100000
set_option linter.unusedSimpArgs false
namespace Go.Proofs.YtegboccilfofmaaGreat
open Go Go.LS
def tGN (b : Nat) (l : Pt) : LV := if l = [] then .tight [] else .sl (Ab l) b (List.length (Ab l))
def Vx (l : Pt) : List LObj := if l = [] then [] else [.spare 1 (List.length (Ab l))]
theorem Ui (b : Nat) (l : Pt) (x : List UInt8) : tGN b (l ++ [x]) = .sl (Ab (l ++ [x])) b (List.length (Ab (l ++ [x]))) := if_neg (by simp)
theorem Rq (l : Pt) (x : List UInt8) : Vx (l ++ [x]) = [.spare 1 (List.length (Ab (l ++ [x])))] := if_neg (by simp)
theorem Is {b : Nat} {l : Pt} (h : l ≠ []) : tGN b l = .sl (Ab l) b (List.length (Ab l)) := if_neg h
theorem Gi {l : Pt} (h : l ≠ []) : Vx l = [.spare 1 (List.length (Ab l))] := if_neg h
theorem pRdL {c : Int} (hc : c ≤ 8) : ∀ (j i : Nat) (ms : Pt) (x : Src), x.1.length ≤ 140737488355328 → (i : Int) + j = max c 0 → ms.length = i →
  LoopN lp 1 (Ac Lj 0) (tl 0 15 [(0, .ptr 0 0 0), (3, tGN 1 ms), (5, .p (.int .i64 c)), (6, .p (.int .i64 (i : Int)))]) (sto x ++ Vx ms) (.exit 0, (tl 0 15 [(3, tGN 1 (Co true j ms x).1)]), sto (Co true j ms x).2 ++ Vx (Co true j ms x).1) := by
 intro j
 induction j with
 | zero =>
  intro i ms x hx hi hm
  have hlt : decide ((i : Int) < c) = false := decide_eq_false (by omega)
  by_cases hms : ms = []
  ·subst hms; exact pRdT_n hlt
  ·simp only [Co]; rw [Is hms, Gi hms]; exact pRdS_n hlt
 | succ j ih =>
  intro i ms x hx hi hm
  have hlt : decide ((i : Int) < c) = true := decide_eq_true (by omega)
  have hl := E7 x 32
  have h := ih (i + 1) (ms ++ [(Aj x 32).1]) (Aj x 32).2 (by omega) (by omega) (by simp [hm])
  rw [Ui, Rq] at h
  have e : Co true (j + 1) ms x = Co true j (ms ++ [(Aj x 32).1]) (Aj x 32).2 := by simp [Co]
  rw [e]
  by_cases hms : ms = []
  ·subst hms
   obtain rfl : i = 0 := by simpa using hm.symm
   exact pRdT_y hlt (Og x 32 hx) (by rw [nx (by omega)]; exact h)
  ·rw [Is hms, Gi hms]
   exact pRdS_y hlt (Og x 32 hx) (by omega) (by rw [nx (by omega)]; exact h)
theorem qRdL {c : Int} (hc : c ≤ 8) : ∀ (j i : Nat) (ms : Pt) (x : Src), x.1.length ≤ 140737488355328 → (i : Int) + j = max c 0 → ms.length = i →
  LoopN lp 1 (Ac Jf 0) (tl 0 26 [(0, .ptr 0 0 0), (3, tGN 1 ms), (4, .p (.int .i64 c)), (5, .p (.int .i64 (i : Int)))]) (sto x ++ Vx ms) (.exit 0, (tl 0 26 [(3, tGN 1 (Co false j ms x).1)]), sto (Co false j ms x).2 ++ Vx (Co false j ms x).1) := by
 intro j
 induction j with
 | zero =>
  intro i ms x hx hi hm
  have hlt : decide ((i : Int) < c) = false := decide_eq_false (by omega)
  by_cases hms : ms = []
  ·subst hms; exact qRdT_n hlt
  ·simp only [Co]; rw [Is hms, Gi hms]; exact qRdS_n hlt
 | succ j ih =>
  intro i ms x hx hi hm
  have hlt : decide ((i : Int) < c) = true := decide_eq_true (by omega)
  cases hb : x.2 with
  | true =>
   have e : Co false (j + 1) ms x = (ms, x) := by simp [Co, hb]
   rw [e]
   by_cases hms : ms = []
   ·subst hms; exact qRdT_yn hlt (by rw [hb]; rfl)
   ·rw [Is hms, Gi hms]; exact qRdS_yn hlt (by rw [hb]; rfl)
  | false =>
   have hl := E7 x 32
   have h := ih (i + 1) (ms ++ [(Aj x 32).1]) (Aj x 32).2 (by omega) (by omega) (by simp [hm])
   rw [Ui, Rq] at h
   have e : Co false (j + 1) ms x = Co false j (ms ++ [(Aj x 32).1]) (Aj x 32).2 := by simp [Co, hb]
   rw [e]
   by_cases hms : ms = []
   ·subst hms
    obtain rfl : i = 0 := by simpa using hm.symm
    exact qRdT_yy hlt (by rw [hb]; rfl) (Oh x 32 hx) (by rw [nx (by omega)]; exact h)
   ·rw [Is hms, Gi hms]
    exact qRdS_yy hlt (by rw [hb]; rfl) (Oh x 32 hx) (by omega) (by rw [nx (by omega)]; exact h)
theorem rdTs_le (p : Bool) : ∀ (j : Nat) (ms : Pt) (x : Src), (Co p j ms x).2.1.length ≤ x.1.length := by
 intro j
 induction j with
 | zero => intro ms x; exact Nat.le_refl _
 | succ j ih =>
  intro ms x
  simp only [Co]
  split
  ·exact Nat.le_refl _
  ·exact Nat.le_trans (ih _ _) (E7 x 32)
theorem rdTs_ok (p : Bool) : ∀ (j : Nat) (ms : Pt) (x : Src), (∀ m ∈ ms, m.length ≤ 32) → (Co p j ms x).1.length ≤ ms.length + j ∧ ∀ m ∈ (Co p j ms x).1, m.length ≤ 32 := by
 intro j
 induction j with
 | zero => intro ms x h; exact ⟨Nat.le_refl _, h⟩
 | succ j ih =>
  intro ms x h
  simp only [Co]
  split
  ·exact ⟨by simp, h⟩
  ·have hl := Ko x 32 (by decide)
   obtain ⟨h1, h2⟩ := ih (ms ++ [(Aj x 32).1]) (Aj x 32).2 (by
    intro m hm
    rw [List.mem_append, List.mem_singleton] at hm
    rcases hm with hm | rfl
    ·exact h m hm
    ·omega)
   exact ⟨by simp at h1 ⊢; omega, h2⟩
theorem H1 (p : Bool) (x : Src) : (Af p x).2.1.length ≤ x.1.length := Nat.le_trans (rdTs_le p _ _ _) (Cq x 8)
theorem Oj (p : Bool) (x : Src) : (Af p x).1.length ≤ 8 ∧ ∀ m ∈ (Af p x).1, m.length ≤ 32 := by
 have h := rdTs_ok p (Ai x 8).1.toNat [] (Ai x 8).2 (by simp)
 have h2 := Cm x 8 (by decide)
 exact ⟨by have := h.1; simp at this; unfold Af; omega, h.2⟩
theorem pRd (x : Src) (hx : x.1.length ≤ 140737488355328) : Runs lp 69 [.ptr 0 0 0] (sto x) (.p (.sl (Ab (Af true x).1)), sto (Af true x).2) := by
 have h2 := Cm x 8 (by decide)
 have h := pRdL h2.1 (Ai x 8).1.toNat 0 [] (Ai x 8).2 (by have := Cq x 8; omega) (by omega) rfl
 have e : Co true (Ai x 8).1.toNat [] (Ai x 8).2 = Af true x := rfl
 rw [e] at h
 generalize Af true x = q at *
 obtain ⟨ms, x2⟩ := q
 refine ifE (pRd0 (ms := ms) (x2 := x2) (fun b => ?_) (fun b => ?_)) ?_
 ·have b := of_decide_eq_true b
  subst b; exact h
 ·have b := of_decide_eq_false b
  simp only [] at h
  rw [Is b, Gi b] at h; exact h
 ·by_cases b : ms = []
  ·subst b; rfl
  ·rw [if_neg (by simpa using b)]
theorem qRd (x : Src) (hx : x.1.length ≤ 140737488355328) : Runs lp 44 [.ptr 0 0 0] (sto x) (.p (.sl (Ab (Af false x).1)), sto (Af false x).2) := by
 have h2 := Cm x 8 (by decide)
 have h := qRdL h2.1 (Ai x 8).1.toNat 0 [] (Ai x 8).2 (by have := Cq x 8; omega) (by omega) rfl
 have e : Co false (Ai x 8).1.toNat [] (Ai x 8).2 = Af false x := rfl
 rw [e] at h
 generalize Af false x = q at *
 obtain ⟨ms, x2⟩ := q
 refine ifE (qRd0 (ms := ms) (x2 := x2) (fun b => ?_) (fun b => ?_)) ?_
 ·have b := of_decide_eq_true b
  subst b; exact h
 ·have b := of_decide_eq_false b
  simp only [] at h
  rw [Is b, Gi b] at h; exact h
 ·by_cases b : ms = []
  ·subst b; rfl
  ·rw [if_neg (by simpa using b)]
theorem Px (p : Bool) (x : Src) (hx : x.1.length ≤ 140737488355328) : (Cx p x).2.1.length ≤ x.1.length := by
 have h1 := C2 x
 have h2 := H1 p (Aa x).2
 have h3 := H1 p (Af p (Aa x).2).2
 have h4 := Rl (Af p (Aa x).2).2 (by omega)
 unfold Cx
 split
 ·simp only; omega
 ·split <;> (simp only; omega)
theorem Vy : okV Ds := Gg (by decide) (by decide) (by simp) (by simp) (by simp) (by simp) (by simp)
theorem rdOp_ok (p : Bool) (x : Src) : okO (Cx p x).1 := by
 have h2 := Oj p (Aa x).2
 have h3 := Oj p (Af p (Aa x).2).2
 have h4 := Js (Af p (Aa x).2).2
 have hz : Ax Ds ≤ 1000000 := by simp [Ds, Ax, Bo]
 unfold Cx
 split
 ·exact ⟨fun m hm => by have := h2.2 m hm; omega, by have := h2.1; simp only; omega, Vy, hz, by simp, by simp⟩
 ·split
  ·exact ⟨fun m hm => by have := h2.2 m hm; omega, by have := h2.1; simp only; omega, Vy, hz, fun m hm => by have := h3.2 m hm; omega, by have := h3.1; simp only; omega⟩
  ·exact ⟨fun m hm => by have := h2.2 m hm; omega, by have := h2.1; simp only; omega, h4.1, by have := h4.2; simp only; omega, by simp, by simp⟩
theorem oRd (x : Src) (hx : x.1.length ≤ 140737488355328) : Runs lp 38 [.ptr 0 0 0] (sto x) (.agg ((Ll (Cx true x).1).map .p), sto (Cx true x).2) := by
 have hb := C2 x
 have h1 := pRd (Aa x).2 (by omega)
 have hq := H1 true (Aa x).2
 have h2 := pRd (Af true (Aa x).2).2 (by omega)
 have h3 := vRd8 (Af true (Aa x).2).2 (by omega)
 unfold Cx
 generalize Cw (Af true (Aa x).2).2 = q at *
 obtain ⟨⟨k, n, s, is, ns⟩, x3⟩ := q
 refine ifE (oRd0 h1 (fun _ _ => h2) (fun _ _ => h3)) ?_
 split
 ·rfl
 ·split <;> rfl
def tGO (b : Nat) (l : List OpS) : LV := if l = [] then .tight [] else .sl (Ap l) b (List.length (Ap l))
def stGO (l : List OpS) : List LObj := if l = [] then [] else [.spare 8 (List.length (Ap l))]
theorem tGO_ne {b : Nat} {l : List OpS} (h : l ≠ []) : tGO b l = .sl (Ap l) b (List.length (Ap l)) := if_neg h
theorem stGO_ne {l : List OpS} (h : l ≠ []) : stGO l = [.spare 8 (List.length (Ap l))] := if_neg h
def stX (x : Src) (l : List OpS) : List LObj := sto x ++ [.row [[.p (.bool false), .p (.int .i64 0), .p (.int .i64 0), .p (.str []), (.tight []), (.tight []), (.tight [])]], .row [[.p (.bool false), .p (.int .i64 0), .p (.int .i64 0), .p (.str []), (.tight []), (.tight []), tGO 3 l]]] ++ stGO l
theorem Ej {x : Src} {l : List OpS} (h : l ≠ []) : stX x l = sto x ++ [.row [[.p (.bool false), .p (.int .i64 0), .p (.int .i64 0), .p (.str []), (.tight []), (.tight []), (.tight [])]], .row [[.p (.bool false), .p (.int .i64 0), .p (.int .i64 0), .p (.str []), (.tight []), (.tight []), (.sl (Ap l) 3 (List.length (Ap l)))]]] ++ [.spare 8 (List.length (Ap l))] := by rw [stX, tGO_ne h, stGO_ne h]
theorem Fw (p : Bool) (l : List OpS) {x : Src} (h : x.2 = true) : ∀ j, B3 p j l x = (l, x)
 | 0 => rfl
 | j + 1 => by simp [B3, h]
theorem sRdL {c : Int} (hc : c ≤ 16) : ∀ (j i : Nat) (l : List OpS) (x : Src), x.1.length ≤ 140737488355328 → (i : Int) + j = max c 0 → (x.2 = false → l.length = i) →
  LoopN lp 1 (Ac H3 0) (tl 0 42 [(0, .ptr 0 0 0), (2, .ptr 1 0 0), (3, .ptr 2 0 0), (11, .p (.int .i64 c)), (12, .p (.int .i64 (i : Int)))]) (stX x l) (.exit 1, (tl 0 42 [(0, .ptr 0 0 0), (2, .ptr 1 0 0), (3, .ptr 2 0 0)]), stX (B3 true j l x).2 (B3 true j l x).1) := by
 intro j
 induction j with
 | zero =>
  intro i l x hx hi hm
  have hlt : decide ((i : Int) < c) = false := decide_eq_false (by omega)
  by_cases hl : l = []
  ·subst hl; exact sRdT_n hlt
  ·simp only [B3]; rw [Ej hl]; exact sRdS_n hlt
 | succ j ih =>
  intro i l x hx hi hm
  have hlt : decide ((i : Int) < c) = true := decide_eq_true (by omega)
  cases hb : x.2 with
  | true =>
   have h := ih (i + 1) l x hx (by omega) (fun h => by rw [hb] at h; cases h)
   rw [Fw true l hb] at h
   rw [Fw true l hb]
   by_cases hl : l = []
   ·subst hl; exact sRdT_yn hlt (by rw [hb]; rfl) (by rw [nx (by omega)]; exact h)
   ·rw [Ej hl] at h ⊢; exact sRdS_yn hlt (by rw [hb]; rfl) (by rw [nx (by omega)]; exact h)
  | false =>
   have ho := oRd x hx
   have hle := Px true x hx
   have hml := hm hb
   have h := ih (i + 1) (l ++ [(Cx true x).1]) (Cx true x).2 (by omega) (by omega) (fun _ => by simp [hml])
   have e : B3 true (j + 1) l x = B3 true j (l ++ [(Cx true x).1]) (Cx true x).2 := by simp [B3, hb]
   rw [e]
   rw [Ej (by simp)] at h
   generalize Cx true x = q at *
   obtain ⟨⟨ok, ps, ⟨vk, vn, vs, vi, vns⟩, ts⟩, x2⟩ := q
   by_cases hl : l = []
   ·subst hl
    exact sRdT_yy ok vk vn vs vi ps vns ts x2 hlt (by rw [hb]; rfl) ho (by rw [nx (by omega)]; exact h)
   ·rw [Ej hl]
    exact sRdS_yy ok vk vn vs vi ps vns ts x2 hlt (by rw [hb]; rfl) ho (by omega) (by rw [nx (by omega)]; exact h)
theorem tRdL {c : Int} (hc : c ≤ 16) : ∀ (j i : Nat) (l : List OpS) (x : Src), x.1.length ≤ 140737488355328 → (i : Int) + j = max c 0 → (x.2 = false → l.length = i) →
  LoopN lp 1 (Ac E8 0) (tl 0 73 [(0, .ptr 0 0 0), (2, .ptr 1 0 0), (3, .ptr 2 0 0), (4, .p (.int .i64 c)), (5, .p (.int .i64 (i : Int)))]) (stX x l) (.exit 1, (tl 0 73 [(0, .ptr 0 0 0), (2, .ptr 1 0 0), (3, .ptr 2 0 0)]), stX (B3 false j l x).2 (B3 false j l x).1) := by
 intro j
 induction j with
 | zero =>
  intro i l x hx hi hm
  have hlt : decide ((i : Int) < c) = false := decide_eq_false (by omega)
  by_cases hl : l = []
  ·subst hl; exact tRdT_n hlt
  ·simp only [B3]; rw [Ej hl]; exact tRdS_n hlt
 | succ j ih =>
  intro i l x hx hi hm
  have hlt : decide ((i : Int) < c) = true := decide_eq_true (by omega)
  cases hb : x.2 with
  | true =>
   rw [Fw false l hb]
   by_cases hl : l = []
   ·subst hl; exact tRdT_yn hlt (by rw [hb]; rfl)
   ·rw [Ej hl]; exact tRdS_yn hlt (by rw [hb]; rfl)
  | false =>
   have hbl := C2 x
   have h1 := qRd (Aa x).2 (by omega)
   have hq := H1 false (Aa x).2
   have h2 := qRd (Af false (Aa x).2).2 (by omega)
   have h3 := rRd8 (Af false (Aa x).2).2 (by omega)
   have hle := Px false x hx
   have hml := hm hb
   have h := ih (i + 1) (l ++ [(Cx false x).1]) (Cx false x).2 (by omega) (by omega) (fun _ => by simp [hml])
   have e : B3 false (j + 1) l x = B3 false j (l ++ [(Cx false x).1]) (Cx false x).2 := by simp [B3, hb]
   rw [e]
   rw [Ej (by simp)] at h
   by_cases k2 : ((Aa x).1 == 2) = true
   ·have eo : Cx false x = (⟨(Aa x).1, (Af false (Aa x).2).1, Ds, []⟩, (Af false (Aa x).2).2) := by unfold Cx; rw [if_pos k2]
    rw [eo] at h ⊢
    by_cases hl : l = []
    ·subst hl
     exact Zi hlt (by rw [hb]; rfl) h1 k2 (by rw [nx (by omega)]; exact h)
    ·rw [Ej hl]
     exact Zj hlt (by rw [hb]; rfl) h1 k2 (by omega) (by rw [nx (by omega)]; exact h)
   ·have k2' : ((Aa x).1 == 2) = false := by simpa using k2
    by_cases k6 : ((Aa x).1 == 6) = true
    ·have eo : Cx false x = (⟨(Aa x).1, (Af false (Aa x).2).1, Ds, (Af false (Af false (Aa x).2).2).1⟩, (Af false (Af false (Aa x).2).2).2) := by unfold Cx; rw [if_neg k2, if_pos k6]
     rw [eo] at h ⊢
     by_cases hl : l = []
     ·subst hl
      exact Vt hlt (by rw [hb]; rfl) h1 k2' k6 h2 (by rw [nx (by omega)]; exact h)
     ·rw [Ej hl]
      exact Vv hlt (by rw [hb]; rfl) h1 k2' k6 h2 (by omega) (by rw [nx (by omega)]; exact h)
    ·have k6' : ((Aa x).1 == 6) = false := by simpa using k6
     have eo : Cx false x = (⟨(Aa x).1, (Af false (Aa x).2).1, (Cw (Af false (Aa x).2).2).1, []⟩, (Cw (Af false (Aa x).2).2).2) := by unfold Cx; rw [if_neg k2, if_neg k6]
     rw [eo] at h ⊢
     generalize Cw (Af false (Aa x).2).2 = q at *
     obtain ⟨⟨k, n, s, is, ns⟩, x3⟩ := q
     by_cases hl : l = []
     ·subst hl
      exact Vu hlt (by rw [hb]; rfl) h1 k2' k6' h3 (by rw [nx (by omega)]; exact h)
     ·rw [Ej hl]
      exact Vw hlt (by rw [hb]; rfl) h1 k2' k6' h3 (by omega) (by rw [nx (by omega)]; exact h)
theorem Zk (p : Bool) : ∀ (j : Nat) (l : List OpS) (x : Src), x.1.length ≤ 140737488355328 → (B3 p j l x).2.1.length ≤ x.1.length := by
 intro j
 induction j with
 | zero => intro l x hx; exact Nat.le_refl _
 | succ j ih =>
  intro l x hx
  have h := Px p x hx
  simp only [B3]
  split
  ·exact Nat.le_refl _
  ·exact Nat.le_trans (ih _ _ (by omega)) h
theorem M7 (p : Bool) : ∀ (j : Nat) (l : List OpS) (x : Src), (∀ o ∈ l, okO o) → (B3 p j l x).1.length ≤ l.length + j ∧ ∀ o ∈ (B3 p j l x).1, okO o := by
 intro j
 induction j with
 | zero => intro l x h; exact ⟨Nat.le_refl _, h⟩
 | succ j ih =>
  intro l x h
  simp only [B3]
  split
  ·exact ⟨by simp, h⟩
  ·obtain ⟨h1, h2⟩ := ih (l ++ [(Cx p x).1]) (Cx p x).2 (by
    intro o ho
    rw [List.mem_append, List.mem_singleton] at ho
    rcases ho with ho | rfl
    ·exact h o ho
    ·exact rdOp_ok p x)
   exact ⟨by simp at h1 ⊢; omega, h2⟩
def Lc (q : SpS) : LV := .agg ([.p (.bool q.r)] ++ (O5 q.d).map .p ++ [.p (.sl (Ap q.o))])
def okSp (q : SpS) : Prop := okV q.d ∧ Ax q.d ≤ 1000000 ∧ q.o.length ≤ 50 ∧ ∀ o ∈ q.o, okO o
theorem Ok : okSp Ie := ⟨Vy, by simp [Ie, Ds, Ax, Bo], by simp [Ie], by simp [Ie]⟩
theorem Vz (p : Bool) (x : Src) : okSp (Hm p x).1 := by
 unfold Hm
 split
 ·have h := M7 p (Ai (Aa x).2 16).1.toNat [] (Ai (Aa x).2 16).2 (by simp)
  have h2 := Cm (Aa x).2 16 (by decide)
  exact ⟨Vy, by simp [Ds, Ax, Bo], by have := h.1; simp at this; simp only; omega, h.2⟩
 ·split
  ·have h := Js (Aa x).2
   exact ⟨h.1, by have := h.2; simp only; omega, by simp, by simp⟩
  ·exact Ok
theorem V0 (p : Bool) (x : Src) : okSp (Dt p x).1 := by
 unfold Dt Ta
 split
 ·exact Ok
 ·exact Vz p x
theorem V1 (p : Bool) (x : Src) (hx : x.1.length ≤ 140737488355328) : (Hm p x).2.1.length ≤ x.1.length := by
 have hb := C2 x
 unfold Hm
 split
 ·have h := Zk p (Ai (Aa x).2 16).1.toNat [] (Ai (Aa x).2 16).2 (by have := Cq (Aa x).2 16; omega)
  have := Cq (Aa x).2 16
  simp only; omega
 ·split
  ·have := Rl (Aa x).2 (by omega); simp only; omega
  ·exact hb
theorem V2 (p : Bool) (x : Src) (hx : x.1.length ≤ 140737488355328) : (Dt p x).2.1.length ≤ x.1.length := by
 unfold Dt Ta
 split <;> exact V1 p x hx
theorem Py (q : SpS) (x2 : Src) : Ta (q, x2) = if (x2.2) = true then (Ie, (x2.1, true)) else if (Bp q.r q.d q.o == 0) = true then (q, x2) else (Ie, (x2.1, true)) := by
 unfold Ta
 simp only []
 cases x2.2 with
 | true => rfl
 | false => cases h : (Bp q.r q.d q.o == 0) <;> rfl
theorem Kp {c1 c2 : Bool} {x2 : Src} {q : SpS} {a : LV × List LObj} (ha : a = (Lc q, sto x2)) (hc : (Bp q.r q.d q.o == 0) = c2) (h1 : x2.2 = c1) :
  (if c1 = true then (Lc Ie, sto (x2.1, true)) else if c2 = true then a else (Lc Ie, sto (x2.1, true))) = (Lc (Ta (q, x2)).1, sto (Ta (q, x2)).2) := by
 rw [Py, hc, h1, ha]
 cases c1 <;> cases c2 <;> rfl
theorem sRd (x : Src) (hx : x.1.length ≤ 140737488355328) : Runs lp 12 [.ptr 0 0 0] (sto x) (Lc (Dt true x).1, sto (Dt true x).2) := by
 have hb := C2 x
 have hcl := Cq (Aa x).2 16
 have hcm := Cm (Aa x).2 16 (by decide)
 have hv := vRd8 (Aa x).2 (by omega)
 have hvo := Js (Aa x).2
 have hl := sRdL hcm.1 (Ai (Aa x).2 16).1.toNat 0 [] (Ai (Aa x).2 16).2 (by omega) (by omega) (fun _ => rfl)
 have hlo := M7 true (Ai (Aa x).2 16).1.toNat [] (Ai (Aa x).2 16).2 (by simp)
 unfold Dt Hm
 cases h0 : ((Aa x).1 == 0) with
 | true =>
  generalize B3 true (Ai (Aa x).2 16).1.toNat [] (Ai (Aa x).2 16).2 = q at *
  obtain ⟨l, x2⟩ := q
  have hck := Ug Ds (ops := l) (rb := false) Vy (by simp [Ds, Ax, Bo]) (by have := hlo.1; simp at this; omega) hlo.2
  refine ifE (sRd0 (k := 0) (n := 0) (s := []) (is := []) (ns := []) (x2 := x2) (l := l) (fun _ b => ?_) (fun _ b _ => ?_) (fun _ b => ?_) (fun _ b _ => hck) (fun h => by rw [h0] at h; cases h) (fun h => by rw [h0] at h; cases h)) ?_
  ·have b := of_decide_eq_true b
   subst b; exact hl
  ·have b := of_decide_eq_true b
   subst b; exact hck
  ·have b := of_decide_eq_false b
   simp only [] at hl
   rw [Ej b] at hl; exact hl
  ·rw [if_pos h0, if_pos rfl]
   by_cases b : l = []
   ·subst b
    rw [if_pos (by simp)]
    exact Kp (x2 := x2) (q := ⟨false, Ds, []⟩) rfl rfl rfl
   ·rw [if_neg (by simpa using b)]
    exact Kp (x2 := x2) (q := ⟨false, Ds, l⟩) rfl rfl rfl
 | false =>
  cases h1 : ((Aa x).1 == 1) with
  | true =>
   generalize Cw (Aa x).2 = q at *
   obtain ⟨⟨k, n, s, is, ns⟩, x2⟩ := q
   have hck := Ug (.mk k n s is ns) (ops := []) (rb := true) hvo.1 (by have := hvo.2; simp only at this; omega) (by simp) (by simp)
   refine ifE (sRd0 (x2 := x2) (l := []) (fun h => by rw [h0] at h; cases h) (fun h => by rw [h0] at h; cases h) (fun h => by rw [h0] at h; cases h) (fun h => by rw [h0] at h; cases h) (fun _ _ => hv) (fun _ _ _ => hck)) ?_
   rw [if_neg (by rw [h0]; decide), if_pos h1]
   simp only [Bool.false_eq_true, if_false, if_true]
   exact Kp (x2 := x2) (q := ⟨true, .mk k n s is ns, []⟩) rfl rfl rfl
  | false =>
   refine ifE (sRd0 (k := 0) (n := 0) (s := []) (is := []) (ns := []) (x2 := x) (l := []) (fun h => by rw [h0] at h; cases h) (fun h => by rw [h0] at h; cases h) (fun h => by rw [h0] at h; cases h) (fun h => by rw [h0] at h; cases h) (fun _ h => by rw [h1] at h; cases h) (fun _ h => by rw [h1] at h; cases h)) ?_
   rw [if_neg (by rw [h0]; decide), if_neg (by rw [h1]; decide), if_neg (by decide), if_neg (by decide)]
   rfl
theorem tRd (x : Src) (hx : x.1.length ≤ 140737488355328) : Runs lp 14 [.ptr 0 0 0] (sto x) (Lc (Dt false x).1, sto (Dt false x).2) := by
 have hb := C2 x
 have hcl := Cq (Aa x).2 16
 have hcm := Cm (Aa x).2 16 (by decide)
 have hv := rRd8 (Aa x).2 (by omega)
 have hvo := Js (Aa x).2
 have hl := tRdL hcm.1 (Ai (Aa x).2 16).1.toNat 0 [] (Ai (Aa x).2 16).2 (by omega) (by omega) (fun _ => rfl)
 have hlo := M7 false (Ai (Aa x).2 16).1.toNat [] (Ai (Aa x).2 16).2 (by simp)
 unfold Dt Hm
 cases h1 : ((Aa x).1 == 1) with
 | true =>
  have h0 : ((Aa x).1 == 0) = false := by rw [eq_of_beq h1]; rfl
  generalize Cw (Aa x).2 = q at *
  obtain ⟨⟨k, n, s, is, ns⟩, x2⟩ := q
  have hck := Uh (.mk k n s is ns) (ops := []) (rb := true) hvo.1 (by have := hvo.2; simp only at this; omega) (by simp) (by simp)
  refine ifE (tRd0 (x2 := x2) (l := []) (fun _ => hv) (fun _ _ => hck) (fun h => by rw [h1] at h; cases h) (fun h => by rw [h1] at h; cases h) (fun h => by rw [h1] at h; cases h) (fun h => by rw [h1] at h; cases h)) ?_
  rw [if_pos h1, h0]
  simp only [Bool.false_eq_true, if_false, if_true]
  exact Kp (x2 := x2) (q := ⟨true, .mk k n s is ns, []⟩) rfl rfl rfl
 | false =>
  cases h0 : ((Aa x).1 == 0) with
  | true =>
   generalize B3 false (Ai (Aa x).2 16).1.toNat [] (Ai (Aa x).2 16).2 = q at *
   obtain ⟨l, x2⟩ := q
   have hck := Uh Ds (ops := l) (rb := false) Vy (by simp [Ds, Ax, Bo]) (by have := hlo.1; simp at this; omega) hlo.2
   refine ifE (tRd0 (k := 0) (n := 0) (s := []) (is := []) (ns := []) (x2 := x2) (l := l) (fun h => by rw [h1] at h; cases h) (fun h => by rw [h1] at h; cases h) (fun _ _ b => ?_) (fun _ _ b _ => ?_) (fun _ _ b => ?_) (fun _ _ b _ => hck)) ?_
   ·have b := of_decide_eq_true b
    subst b; exact hl
   ·have b := of_decide_eq_true b
    subst b; exact hck
   ·have b := of_decide_eq_false b
    simp only [] at hl
    rw [Ej b] at hl; exact hl
   ·rw [if_neg (by rw [h1]; decide), if_pos h0, if_pos rfl]
    by_cases b : l = []
    ·subst b
     rw [if_pos (by simp)]
     exact Kp (x2 := x2) (q := ⟨false, Ds, []⟩) rfl rfl rfl
    ·rw [if_neg (by simpa using b)]
     exact Kp (x2 := x2) (q := ⟨false, Ds, l⟩) rfl rfl rfl
  | false =>
   refine ifE (tRd0 (k := 0) (n := 0) (s := []) (is := []) (ns := []) (x2 := x) (l := []) (fun h => by rw [h1] at h; cases h) (fun h => by rw [h1] at h; cases h) (fun _ h => by rw [h0] at h; cases h) (fun _ h => by rw [h0] at h; cases h) (fun _ h => by rw [h0] at h; cases h) (fun _ h => by rw [h0] at h; cases h)) ?_
   rw [if_neg (by rw [h1]; decide), if_neg (by rw [h0]; decide), if_neg (by decide), if_neg (by decide)]
   rfl
theorem Tb {x : Src} {m : Int} (h : x.2 = true) : Aj x m = ([], x) := by
 obtain ⟨L, b⟩ := x
 have h : b = true := h
 subst h
 rw [Aj, if_pos (.inl rfl)]
theorem Kq (p : Bool) {x : Src} (h : x.2 = true) : ∀ (j : Nat) (ms : Pt), (Co p j ms x).2 = x := by
 intro j
 induction j with
 | zero => intro ms; rfl
 | succ j ih =>
  intro ms
  simp only [Co]
  split
  ·rfl
  ·rw [Tb h]; exact ih _
theorem Tc : ∀ (j : Nat) (ms : Pt) (x : Src), (Co true j ms x).2 = (Co false j ms x).2 ∧ ((Co true j ms x).2.2 = false → Co true j ms x = Co false j ms x) := by
 intro j
 induction j with
 | zero => intro ms x; exact ⟨rfl, fun _ => rfl⟩
 | succ j ih =>
  intro ms x
  cases hb : x.2 with
  | true =>
   have e1 := Kq true hb (j + 1) ms
   have e2 := Kq false hb (j + 1) ms
   exact ⟨by rw [e1, e2], fun h => by rw [e1, hb] at h; cases h⟩
  | false =>
   have e1 : Co true (j + 1) ms x = Co true j (ms ++ [(Aj x 32).1]) (Aj x 32).2 := by simp [Co]
   have e2 : Co false (j + 1) ms x = Co false j (ms ++ [(Aj x 32).1]) (Aj x 32).2 := by simp [Co, hb]
   rw [e1, e2]; exact ih _ _
theorem Jw (x : Src) : (Af true x).2 = (Af false x).2 ∧ ((Af true x).2.2 = false → Af true x = Af false x) := Tc _ _ _
theorem Rr {x : Src} {m : Int} (h : x.2 = true) : (Ai x m).2 = x := by
 obtain ⟨L, b⟩ := x
 have h : b = true := h
 subst h
 rw [Ai, if_pos (.inl rfl)]
theorem Rs (p : Bool) {x : Src} (h : x.2 = true) : (Af p x).2 = x := by
 unfold Af
 rw [Rr h]; exact Kq p h _ _
theorem Td {x : Src} (h : x.2 = true) : (Cw x).2.2 = true := by
 unfold Cw
 rw [M5 true 8 h]
 rfl
theorem Te (x : Src) : (Cx true x).2 = (Cx false x).2 ∧ ((Cx true x).2.2 = false → Cx true x = Cx false x) := by
 have h1 := Jw (Aa x).2
 have h2 := Jw (Af false (Aa x).2).2
 unfold Cx
 split
 ·exact ⟨h1.1, fun h => by have := h1.2 h; rw [this]⟩
 ·split
  ·rw [h1.1]
   refine ⟨h2.1, fun h => ?_⟩
   have h : (Af true (Af false (Aa x).2).2).2.2 = false := h
   have h3 : (Af true (Aa x).2).2.2 = false := by
    rw [h1.1]
    cases hb : (Af false (Aa x).2).2.2 with
    | false => rfl
    | true => rw [Rs true hb, hb] at h; cases h
   rw [h1.2 h3, h2.2 h]
  ·rw [h1.1]
   refine ⟨rfl, fun h => ?_⟩
   have h : (Cw (Af false (Aa x).2).2).2.2 = false := h
   have h3 : (Af true (Aa x).2).2.2 = false := by
    rw [h1.1]
    cases hb : (Af false (Aa x).2).2.2 with
    | false => rfl
    | true => rw [Td hb] at h; cases h
   rw [h1.2 h3]
theorem Rt : ∀ (j : Nat) (l l' : List OpS) (x : Src), (x.2 = false → l = l') → (B3 true j l x).2 = (B3 false j l' x).2 ∧ ((B3 true j l x).2.2 = false → B3 true j l x = B3 false j l' x) := by
 intro j
 induction j with
 | zero => intro l l' x h; exact ⟨rfl, fun hb => by have := h hb; subst this; rfl⟩
 | succ j ih =>
  intro l l' x h
  cases hb : x.2 with
  | true => rw [Fw true l hb, Fw false l' hb]; exact ⟨rfl, fun h2 => by rw [hb] at h2; cases h2⟩
  | false =>
   have := h hb
   subst this
   have ha := Te x
   have e1 : B3 true (j + 1) l x = B3 true j (l ++ [(Cx true x).1]) (Cx true x).2 := by simp [B3, hb]
   have e2 : B3 false (j + 1) l x = B3 false j (l ++ [(Cx false x).1]) (Cx false x).2 := by simp [B3, hb]
   rw [e1, e2, ← ha.1]
   exact ih _ _ _ (fun h2 => by rw [ha.2 h2])
theorem Pz (x : Src) : Dt true x = Dt false x := by
 have hA := Rt (Ai (Aa x).2 16).1.toNat [] [] (Ai (Aa x).2 16).2 (fun _ => rfl)
 unfold Dt Hm
 split
 ·rw [Py, Py]
  cases hb : (B3 true (Ai (Aa x).2 16).1.toNat [] (Ai (Aa x).2 16).2).2.2 with
  | true => rw [if_pos rfl, ← hA.1, if_pos hb]
  | false => have := hA.2 hb; rw [this] at hb ⊢; rw [hb]
 ·rfl
end Go.Proofs.YtegboccilfofmaaGreat

import Derived.Test.YtmbjojnldbeicaaLsCod2
set_option linter.unusedVariables false
set_option linter.unusedSimpArgs false
set_option maxRecDepth 100000
set_option linter.unusedSimpArgs false
namespace Go.Proofs.Ytmbjojnldbeicaa
open Go Go.LS
theorem Xb (rd : Src → Val × Src) : ∀ (j : Nat) (es : List Val) (ms : List (List UInt8)) (x : Src), ms.length = es.length → (rdI rd true j es ms x).2.1.length = (rdI rd true j es ms x).1.length
 | 0, es, ms, x, h => h
 | j + 1, es, ms, x, h => by
  simp only [rdI]
  split
  ·exact h
  ·rw [if_pos trivial]; exact Xb rd j _ _ _ (by simp [h])
theorem Xc (rd : Src → Val × Src) : ∀ (j : Nat) (es : List Val) (ms : List (List UInt8)) (x : Src), (rdI rd false j es ms x).2.1 = ms
 | 0, es, ms, x => rfl
 | j + 1, es, ms, x => by
  simp only [rdI]
  split
  ·rfl
  ·rw [if_neg (by decide)]; exact Xc rd j _ _ _
theorem U8 {rd : Src → Val × Src} {B : Nat} (hrd : ∀ y : Src, y.1.length ≤ B → (rd y).2.1.length ≤ y.1.length) (doc : Bool) : ∀ (j : Nat) (es : List Val) (ms : List (List UInt8)) (x : Src), x.1.length ≤ B → (rdI rd doc j es ms x).2.2.1.length ≤ x.1.length
 | 0, es, ms, x, h => Nat.le_refl _
 | j + 1, es, ms, x, h => by
  simp only [rdI]
  split
  ·exact Nat.le_refl _
  ·split
   ·have h1 := Og x 32
    have h2 := hrd (Ba x 32).2 (by omega)
    have h3 := U8 hrd doc j (es ++ [(rd (Ba x 32).2).1]) (ms ++ [(Ba x 32).1]) (rd (Ba x 32).2).2 (by omega)
    omega
   ·have h2 := hrd x h
    have h3 := U8 hrd doc j (es ++ [(rd x).1]) ms (rd x).2 (by omega)
    omega
theorem Jn (x : Src) (m : Int) (hm : 0 ≤ m) : (Ac x m).1 ≤ m ∧ (((Ac x m).1.toNat : Nat) : Int) = max (Ac x m).1 0 := by
 unfold Ac
 split
 ·exact ⟨hm, by simp⟩
 ·rename_i h
  simp only [not_or] at h
  exact ⟨by simp; omega, by simp⟩
theorem dep1 (d : Nat) (h : d ≤ 1000) : IntKind.wrap .i64 (((d + 1 : Nat) : Int) - 1) = (d : Int) := by rw [A9 (by omega) (by omega)]; omega
theorem vItems {k d : Int} {rd : Src → Val × Src} (hrd : ∀ y : Src, y.1.length ≤ 140737488355328 → Runs lp 77 [.ptr 0 0 0, .p (.int .i64 d)] (sto y) (Es (rd y).1, sto (rd y).2) ∧ (rd y).2.1.length ≤ y.1.length) (x : Src) (hx : x.1.length ≤ 140737488355328)
  {es : List Val} {ms : List (List UInt8)} {x2 : Src} (hr : rdI rd (k == 7) (Ac x 4096).1.toNat [] [] (Ac x 4096).2 = (es, ms, x2)) :
  Runs lp 85 [.ptr 0 0 0, .agg [.p (.int .i64 k), .p (.int .i64 0), .p (.str []), .tight [], .tight []], .p (.int .i64 d)] (sto x) (.agg [.p (.int .i64 k), .p (.int .i64 0), .p (.str []), .p (.sl (Ad es)), .p (.sl (Ak ms))], sto x2) := by
 obtain ⟨c1, c2⟩ := Jn x 4096 (by decide)
 have hl := Gu x 4096
 have L := itLoop (k := k) hrd c1 (Ac x 4096).1.toNat 0 [] [] (Ac x 4096).2 (by omega) (by simp) rfl (fun _ => rfl) (fun _ => rfl)
 rw [hr, It] at L
 have hd := Xb rd (Ac x 4096).1.toNat [] [] (Ac x 4096).2 rfl
 have ha := Xc rd (Ac x 4096).1.toNat [] [] (Ac x 4096).2
 refine ifE (@vIt0 x x2 k d es ms (fun h => ?_) (fun h hk => ?_) (fun h hk => ?_)) ?_
 ·have h : es = [] := of_decide_eq_true h
  subst h; rw [It] at L; exact L
 ·have h : es ≠ [] := of_decide_eq_false h
  rw [Kp h hk, Oh h hk] at L; exact L
 ·have h : es ≠ [] := of_decide_eq_false h
  rw [Kq h hk, Oi h hk] at L; exact L
 ·by_cases h : es = []
  ·subst h
   have : ms = [] := by
    cases hk : (k == 7) with
    | true => rw [hk] at hr; rw [hr] at hd; exact List.eq_nil_of_length_eq_zero hd
    | false => rw [hk] at hr; rw [hr] at ha; exact ha
   subst this; rfl
  ·rw [if_neg (by simpa using h)]
   by_cases hk : (k == 7) = true
   ·rw [if_pos hk]
   ·rw [if_neg hk]
    have hk := Bool.eq_false_iff.2 hk
    rw [hk] at hr; rw [hr] at ha
    have : ms = [] := ha
    subst this; rfl
theorem rdV_le (p : Bool) : ∀ (d : Nat) (x : Src), x.1.length ≤ 140737488355328 → (rdV p d x).2.1.length ≤ x.1.length := by
 intro d
 induction d with
 | zero => intro x _; exact F0 x
 | succ d ih =>
  intro x hx
  have hb := F0 x
  simp only [rdV]
  split
  ·exact hb
  ·split
   ·have := F0 (Aq x).2; simp only; omega
   ·split
    ·have := sInt_le (Aq x).2; simp only; omega
    ·split
     ·have := Og (Aq x).2 4096; simp only; omega
     ·split
      ·have h1 := Gu (Aq x).2 4096
       have h2 := U8 ih ((Aq x).1 == 7) (Ac (Aq x).2 4096).1.toNat [] [] (Ac (Aq x).2 4096).2 (by omega)
       simp only; omega
      ·exact hb
theorem vRead : ∀ (d : Nat), d ≤ 1000 → ∀ x : Src, x.1.length ≤ 140737488355328 → Runs lp 77 [.ptr 0 0 0, .p (.int .i64 (d : Int))] (sto x) (Es (rdV true d x).1, sto (rdV true d x).2) := by
 intro d
 induction d with
 | zero =>
  intro _ x hx
  refine ifE (@vRd0 x x ((0 : Nat) : Int) [] [] (fun h => by simp at h) (fun h => by simp at h) (fun h => by simp at h) (fun h => by simp at h)) ?_
  rfl
 | succ d ih =>
  intro hd x hx
  have hb := F0 x
  have hrd : ∀ y : Src, y.1.length ≤ 140737488355328 → Runs lp 77 [.ptr 0 0 0, .p (.int .i64 (d : Int))] (sto y) (Es (rdV true d y).1, sto (rdV true d y).2) ∧ (rdV true d y).2.1.length ≤ y.1.length :=
   fun y hy => ⟨ih (by omega) y hy, rdV_le true d y hy⟩
  rcases hr : rdI (rdV true d) ((Aq x).1 == 7) (Ac (Aq x).2 4096).1.toNat [] [] (Ac (Aq x).2 4096).2 with ⟨es, ms, x2⟩
  have hit := vItems hrd (Aq x).2 (by omega) hr
  refine ifE (@vRd0 x x2 ((d + 1 : Nat) : Int) es ms (fun _ _ _ _ _ => W8 _ _ (by omega)) (fun _ _ _ _ _ _ => W8 _ _ (by omega)) (fun _ _ _ _ _ _ _ => by rw [dep1 d (by omega)]; exact hit) (fun _ _ _ _ _ _ _ _ => by rw [dep1 d (by omega)]; exact hit)) ?_
  have h0 : (((d + 1 : Nat) : Int) == 0) = false := by simp; omega
  rw [h0, if_neg (by decide)]
  simp only [rdV, hr]
  generalize (Aq x).1 = k at *
  cases h1 : (k == 1)
  ·cases h2 : (k == 2)
   ·cases h3 : (k == 3)
    ·cases h4 : (k == 4)
     ·cases h5 : (k == 5)
      ·cases h6 : (k == 6)
       ·cases h7 : (k == 7)
        ·simp only [Bool.false_eq_true, if_false, or_self] <;> rfl
        ·simp only [Bool.false_eq_true, if_false, or_self, or_true, if_true] <;> rfl
       ·simp only [Bool.false_eq_true, if_false, or_self, true_or, if_true] <;> rfl
      ·simp only [Bool.false_eq_true, if_false, or_true, if_true] <;> rfl
     ·simp only [Bool.false_eq_true, if_false, true_or, if_true] <;> rfl
    ·simp only [Bool.false_eq_true, if_false, if_true] <;> rfl
   ·simp only [Bool.false_eq_true, if_false, if_true] <;> rfl
  ·simp only [if_true] <;> rfl
end Go.Proofs.Ytmbjojnldbeicaa

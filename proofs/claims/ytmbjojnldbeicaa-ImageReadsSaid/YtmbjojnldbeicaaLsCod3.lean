import Derived.Test.YtmbjojnldbeicaaLsCod2
set_option linter.unusedVariables false
set_option linter.unusedSimpArgs false
set_option maxRecDepth 100000
set_option linter.unusedSimpArgs false
namespace Go.Proofs.Ytmbjojnldbeicaa
open Go Go.LS
theorem O8 (rd : Src → Val × Src) : ∀ (j : Nat) (es : List Val) (ms : List (List UInt8)) (x : Src), ms.length = es.length → (rdI rd true j es ms x).2.1.length = (rdI rd true j es ms x).1.length
 | 0, es, ms, x, h => h
 | j + 1, es, ms, x, h => by
  simp only [rdI]
  split
  ·exact h
  ·rw [if_pos trivial]; exact O8 rd j _ _ _ (by simp [h])
theorem O9 (rd : Src → Val × Src) : ∀ (j : Nat) (es : List Val) (ms : List (List UInt8)) (x : Src), (rdI rd false j es ms x).2.1 = ms
 | 0, es, ms, x => rfl
 | j + 1, es, ms, x => by
  simp only [rdI]
  split
  ·rfl
  ·rw [if_neg (by decide)]; exact O9 rd j _ _ _
theorem Sk {rd : Src → Val × Src} {B : Nat} (hrd : ∀ y : Src, y.1.length ≤ B → (rd y).2.1.length ≤ y.1.length) (doc : Bool) : ∀ (j : Nat) (es : List Val) (ms : List (List UInt8)) (x : Src), x.1.length ≤ B → (rdI rd doc j es ms x).2.2.1.length ≤ x.1.length
 | 0, es, ms, x, h => Nat.le_refl _
 | j + 1, es, ms, x, h => by
  simp only [rdI]
  split
  ·exact Nat.le_refl _
  ·split
   ·have h1 := Je x 32
    have h2 := hrd (Al x 32).2 (by omega)
    have h3 := Sk hrd doc j (es ++ [(rd (Al x 32).2).1]) (ms ++ [(Al x 32).1]) (rd (Al x 32).2).2 (by omega)
    omega
   ·have h2 := hrd x h
    have h3 := Sk hrd doc j (es ++ [(rd x).1]) ms (rd x).2 (by omega)
    omega
theorem F7 (x : Src) (m : Int) (hm : 0 ≤ m) : (Aa x m).1 ≤ m ∧ (((Aa x m).1.toNat : Nat) : Int) = max (Aa x m).1 0 := by
 unfold Aa
 split
 ·exact ⟨hm, by simp⟩
 ·rename_i h
  simp only [not_or] at h
  exact ⟨by simp; omega, by simp⟩
theorem Vb {x : Src} (h : (Ab x).2.2 = true) : (Ab x).1 = 0 := by
 unfold Ab at h ⊢
 split at h
 ·rename_i h1; rw [if_pos h1]
 ·simp at h
theorem dep1 (d : Nat) (h : d ≤ 1000) : IntKind.wrap .i64 (((d + 1 : Nat) : Int) - 1) = (d : Int) := by rw [A6 (by omega) (by omega)]; omega
theorem vItems {k d : Int} {rd : Src → Val × Src} (hrd : ∀ y : Src, y.1.length ≤ 140737488355328 → Runs lp 77 [.ptr 0 0 0, .p (.int .i64 d)] (sto y) (El (rd y).1, sto (rd y).2) ∧ (rd y).2.1.length ≤ y.1.length) (x : Src) (hx : x.1.length ≤ 140737488355328)
  {es : List Val} {ms : List (List UInt8)} {x2 : Src} (hr : rdI rd (k == 7) (Aa x 4096).1.toNat [] [] (Aa x 4096).2 = (es, ms, x2)) :
  Runs lp 85 [.ptr 0 0 0, .agg [.p (.int .i64 k), .p (.int .i64 0), .p (.str []), .tight [], .tight []], .p (.int .i64 d)] (sto x) (.agg [.p (.int .i64 k), .p (.int .i64 0), .p (.str []), .p (.sl (Ad es)), .p (.sl (Af ms))], sto x2) := by
 obtain ⟨c1, c2⟩ := F7 x 4096 (by decide)
 have hl := Ep x 4096
 have L := itLoop (k := k) hrd c1 (Aa x 4096).1.toNat 0 [] [] (Aa x 4096).2 (by omega) (by simp) rfl (fun _ => rfl) (fun _ => rfl)
 rw [hr, Hm] at L
 have hd := O8 rd (Aa x 4096).1.toNat [] [] (Aa x 4096).2 rfl
 have ha := O9 rd (Aa x 4096).1.toNat [] [] (Aa x 4096).2
 refine ifE (@vIt0 x x2 k d es ms (fun h => ?_) (fun h hk => ?_) (fun h hk => ?_)) ?_
 ·have h : es = [] := of_decide_eq_true h
  subst h; rw [Hm] at L; exact L
 ·have h : es ≠ [] := of_decide_eq_false h
  rw [Jf h hk, Mu h hk] at L; exact L
 ·have h : es ≠ [] := of_decide_eq_false h
  rw [Jg h hk, Mv h hk] at L; exact L
 ·by_cases h : es = []
  ·subst h
   have : ms = [] := by
    cases hk : (k == 7) with
    | true => rw [hk] at hr; rw [hr] at hd; exact List.eq_nil_of_length_eq_zero hd
    | false => rw [hk] at hr; rw [hr] at ha; exact ha
   subst this; rfl
  ·rw [if_neg (by simpa using h)]
   by_cases hk : (k == 7) = true
   ·rw [if_pos hk]
   ·rw [if_neg hk]
    have hk := Bool.eq_false_iff.2 hk
    rw [hk] at hr; rw [hr] at ha
    have : ms = [] := ha
    subst this; rfl
theorem Sl (p : Bool) : ∀ (d : Nat) (x : Src), x.1.length ≤ 140737488355328 → (rdV p d x).2.1.length ≤ x.1.length := by
 intro d
 induction d with
 | zero => intro x _; exact Dr x
 | succ d ih =>
  intro x hx
  have hb := Dr x
  simp only [rdV]
  split
  ·exact hb
  ·split
   ·have := Dr (Ab x).2; simp only; omega
   ·split
    ·have := sInt_le (Ab x).2; simp only; omega
    ·split
     ·have := Je (Ab x).2 4096; simp only; omega
     ·split
      ·have h1 := Ep (Ab x).2 4096
       have h2 := Sk ih ((Ab x).1 == 7) (Aa (Ab x).2 4096).1.toNat [] [] (Aa (Ab x).2 4096).2 (by omega)
       simp only; omega
      ·exact hb
theorem vRead : ∀ (d : Nat), d ≤ 1000 → ∀ x : Src, x.1.length ≤ 140737488355328 → Runs lp 77 [.ptr 0 0 0, .p (.int .i64 (d : Int))] (sto x) (El (rdV true d x).1, sto (rdV true d x).2) := by
 intro d
 induction d with
 | zero =>
  intro _ x hx
  refine ifE (@vRd0 x x ((0 : Nat) : Int) [] [] (fun h => by simp at h) (fun h => by simp at h) (fun h => by simp at h) (fun h => by simp at h)) ?_
  rfl
 | succ d ih =>
  intro hd x hx
  have hb := Dr x
  have hrd : ∀ y : Src, y.1.length ≤ 140737488355328 → Runs lp 77 [.ptr 0 0 0, .p (.int .i64 (d : Int))] (sto y) (El (rdV true d y).1, sto (rdV true d y).2) ∧ (rdV true d y).2.1.length ≤ y.1.length :=
   fun y hy => ⟨ih (by omega) y hy, Sl true d y hy⟩
  rcases hr : rdI (rdV true d) ((Ab x).1 == 7) (Aa (Ab x).2 4096).1.toNat [] [] (Aa (Ab x).2 4096).2 with ⟨es, ms, x2⟩
  have hit := vItems hrd (Ab x).2 (by omega) hr
  refine ifE (@vRd0 x x2 ((d + 1 : Nat) : Int) es ms (fun _ _ _ _ _ => Tz _ _ (by omega)) (fun _ _ _ _ _ _ => Tz _ _ (by omega)) (fun _ _ _ _ _ _ _ => by rw [dep1 d (by omega)]; exact hit) (fun _ _ _ _ _ _ _ _ => by rw [dep1 d (by omega)]; exact hit)) ?_
  have h0 : (((d + 1 : Nat) : Int) == 0) = false := by simp; omega
  rw [h0, if_neg (by decide)]
  simp only [rdV, hr]
  generalize (Ab x).1 = k at *
  cases h1 : (k == 1)
  ·cases h2 : (k == 2)
   ·cases h3 : (k == 3)
    ·cases h4 : (k == 4)
     ·cases h5 : (k == 5)
      ·cases h6 : (k == 6)
       ·cases h7 : (k == 7)
        ·simp only [Bool.false_eq_true, if_false, or_self] <;> rfl
        ·simp only [Bool.false_eq_true, if_false, or_self, or_true, if_true] <;> rfl
       ·simp only [Bool.false_eq_true, if_false, or_self, true_or, if_true] <;> rfl
      ·simp only [Bool.false_eq_true, if_false, or_true, if_true] <;> rfl
     ·simp only [Bool.false_eq_true, if_false, true_or, if_true] <;> rfl
    ·simp only [Bool.false_eq_true, if_false, if_true] <;> rfl
   ·simp only [Bool.false_eq_true, if_false, if_true] <;> rfl
  ·simp only [if_true] <;> rfl
theorem rRead : ∀ (d : Nat), d ≤ 1000 → ∀ x : Src, x.1.length ≤ 140737488355328 → Runs lp 67 [.ptr 0 0 0, .p (.int .i64 (d : Int))] (sto x) (El (rdV false d x).1, sto (rdV false d x).2) := by
 intro d
 induction d with
 | zero =>
  intro _ x hx
  refine ifE (@rRd0 x x ((0 : Nat) : Int) [] [] (fun h => by simp at h) (fun h => by simp at h) (fun h => by simp at h) (fun h => by simp at h) (fun h => by simp at h) (fun h => by simp at h) (fun h => by simp at h) (fun h => by simp at h)) ?_
  rfl
 | succ d ih =>
  intro hd x hx
  have hb := Dr x
  have hrd : ∀ y : Src, y.1.length ≤ 140737488355328 → Runs lp 67 [.ptr 0 0 0, .p (.int .i64 (IntKind.wrap .i64 (((d + 1 : Nat) : Int) - 1)))] (sto y) (El (rdV false d y).1, sto (rdV false d y).2) ∧ (rdV false d y).2.1.length ≤ y.1.length :=
   fun y hy => ⟨by rw [dep1 d (by omega)]; exact ih (by omega) y hy, Sl false d y hy⟩
  rcases hr : rdI (rdV false d) ((Ab x).1 == 7) (Aa (Ab x).2 4096).1.toNat [] [] (Aa (Ab x).2 4096).2 with ⟨es, ms, x2⟩
  obtain ⟨c1, c2⟩ := F7 (Ab x).2 4096 (by decide)
  have hl := Ep (Ab x).2 4096
  have L := rtLoop (k := (Ab x).1) hrd c1 (Aa (Ab x).2 4096).1.toNat 0 [] [] (Aa (Ab x).2 4096).2 (by omega) (by simp) rfl (fun _ => rfl) (fun _ => rfl)
  rw [hr, Hn] at L
  have hdoc := O8 (rdV false d) (Aa (Ab x).2 4096).1.toNat [] [] (Aa (Ab x).2 4096).2 rfl
  have harr := O9 (rdV false d) (Aa (Ab x).2 4096).1.toNat [] [] (Aa (Ab x).2 4096).2
  have la : es = [] → _ := fun h => by have := L; subst h; rw [Hn] at this; exact this
  have lb : es ≠ [] → ((Ab x).1 == 7) = true → _ := fun h hk => by have := L; rw [Jh h hk] at this; exact this
  have lc : es ≠ [] → ((Ab x).1 == 7) = false → _ := fun h hk => by have := L; rw [Ji h hk] at this; exact this
  refine ifE (@rRd0 x x2 ((d + 1 : Nat) : Int) es ms (fun _ _ _ _ _ _ => T0 _ _ (by omega)) (fun _ _ _ _ _ _ _ => T0 _ _ (by omega)) (fun _ _ _ _ _ _ _ _ h => la (of_decide_eq_true h)) (fun _ _ _ _ _ _ _ _ h hk => lb (of_decide_eq_false h) hk) (fun _ _ _ _ _ _ _ _ h hk => lc (of_decide_eq_false h) hk)
   (fun _ _ _ _ _ _ _ _ _ h => la (of_decide_eq_true h)) (fun _ _ _ _ _ _ _ _ _ h hk => lb (of_decide_eq_false h) hk) (fun _ _ _ _ _ _ _ _ _ h hk => lc (of_decide_eq_false h) hk)) ?_
  have h0 : (((d + 1 : Nat) : Int) == 0) = false := by simp; omega
  rw [h0, if_neg (by decide)]
  cases hbad : (Ab x).2.2 with
  | true =>
   have e0 := Vb hbad
   simp only [rdV, e0, if_true]
   rfl
  | false =>
   rw [if_neg (by decide)]
   have hmsd : ((Ab x).1 == 7) = true → es = [] → ms = [] := fun hk h => by
    rw [hk] at hr; rw [hr] at hdoc; subst h; exact List.eq_nil_of_length_eq_zero hdoc
   have hmsa : ((Ab x).1 == 7) = false → ms = [] := fun hk => by
    rw [hk] at hr; rw [hr] at harr; exact harr
   simp only [rdV, hr]
   generalize (Ab x).1 = k at *
   cases h1 : (k == 1)
   ·cases h2 : (k == 2)
    ·cases h3 : (k == 3)
     ·cases h4 : (k == 4)
      ·cases h5 : (k == 5)
       ·have hfin : ((k == 6) = true ∨ (k == 7) = true) → (if decide (es = []) = true then ((LV.agg [.p (.int .i64 k), .p (.int .i64 0), .p (.str []), .p (.sl []), .p (.sl [])], [LObj.row [[.p (.sl (bs x2.1)), .p (.bool x2.2)]]]) : LV × List LObj) else if (k == 7) = true then (.agg [.p (.int .i64 k), .p (.int .i64 0), .p (.str []), .p (.sl (Ad es)), .p (.sl (Af ms))], [.row [[.p (.sl (bs x2.1)), .p (.bool x2.2)]]])
          else (.agg [.p (.int .i64 k), .p (.int .i64 0), .p (.str []), .p (.sl (Ad es)), .p (.sl [])], [.row [[.p (.sl (bs x2.1)), .p (.bool x2.2)]]])) = (El (.mk k 0 [] es ms), sto x2) := fun _ => by
         by_cases hes : es = []
         ·have : ms = [] := by
           cases h7 : (k == 7) with
           | true => exact hmsd h7 hes
           | false => exact hmsa h7
          subst hes; subst this; rfl
         ·rw [if_neg (by simpa using hes)]
          cases h7 : (k == 7) with
          | true => rw [if_pos rfl]
          | false => rw [if_neg (by decide)]; have := hmsa h7; subst this; rfl
        cases h6 : (k == 6)
        ·cases h7 : (k == 7)
         ·simp only [Bool.false_eq_true, if_false, or_self] <;> rfl
         ·have := hfin (.inr h7)
          rw [h7] at this
          simp only [Bool.false_eq_true, if_false, or_self, or_true, if_true] at this ⊢
          exact this
        ·have := hfin (.inl h6)
         simp only [Bool.false_eq_true, if_false, or_self, true_or, if_true] at this ⊢
         exact this
       ·simp only [Bool.false_eq_true, if_false, or_true, if_true] <;> rfl
      ·simp only [Bool.false_eq_true, if_false, true_or, if_true] <;> rfl
     ·simp only [Bool.false_eq_true, if_false, if_true] <;> rfl
    ·simp only [Bool.false_eq_true, if_false, if_true] <;> rfl
   ·simp only [if_true]; rw [show sto (Ab x).2 = [.row [[.p (.sl (bs (Ab x).2.1)), .p (.bool (Ab x).2.2)]]] from rfl, hbad]; rfl
end Go.Proofs.Ytmbjojnldbeicaa

import Derived.Test.YtmbjojnldbeicaaLsCod3
set_option linter.unusedVariables false
set_option linter.unusedSimpArgs false
set_option maxRecDepth 100000
set_option linter.unusedSimpArgs false
namespace Go.Proofs.Ytmbjojnldbeicaa
open Go Go.LS
theorem Ic (x : Src) : 0 ≤ (Aq x).1 ∧ (Aq x).1 ≤ 255 := by
 unfold Aq; split
 ·simp
 ·have := (x.1.getD 0 0).toNat_lt; simp only; omega
theorem U9 (x : Src) : -9223372036854775808 ≤ (Gt x).1 ∧ (Gt x).1 ≤ 9223372036854775807 := by
 unfold Gt; split
 ·simp
 ·have := W4 x.1
  simp only [Ym]
  split <;> omega
theorem Pq (x : Src) (m : Int) (hm : 0 ≤ m) : ((Ba x m).1.length : Int) ≤ m := by
 unfold Ba; split
 ·simpa using hm
 ·rename_i h
  simp only [not_or] at h
  simp only [List.length_take]
  omega
theorem Va {f : Src → Val × Src} (hf : ∀ x, okV (f x).1) (doc : Bool) : ∀ (j : Nat) (es : List Val) (ms : List (List UInt8)) (x : Src), (∀ v ∈ es, okV v) → (∀ m ∈ ms, m.length ≤ 32) →
  (∀ v ∈ (rdI f doc j es ms x).1, okV v) ∧ (∀ m ∈ (rdI f doc j es ms x).2.1, m.length ≤ 32) ∧ (rdI f doc j es ms x).1.length ≤ es.length + j ∧ (rdI f doc j es ms x).2.1.length ≤ ms.length + j
 | 0, es, ms, x, h1, h2 => ⟨h1, h2, Nat.le_refl _, Nat.le_refl _⟩
 | j + 1, es, ms, x, h1, h2 => by
  simp only [rdI]
  split
  ·exact ⟨h1, h2, Nat.le_add_right _ _, Nat.le_add_right _ _⟩
  ·split
   ·have hl := Pq x 32 (by decide)
    have := Va hf doc j (es ++ [(f (Ba x 32).2).1]) (ms ++ [(Ba x 32).1]) (f (Ba x 32).2).2
     (fun v hv => by rcases List.mem_append.1 hv with h | h; exact h1 v h; rw [List.mem_singleton.1 h]; exact hf _)
     (fun v hv => by rcases List.mem_append.1 hv with h | h; exact h2 v h; rw [List.mem_singleton.1 h]; omega)
    simp only [List.length_append, List.length_singleton] at this
    exact ⟨this.1, this.2.1, by omega, by omega⟩
   ·have := Va hf doc j (es ++ [(f x).1]) ms (f x).2 (fun v hv => by rcases List.mem_append.1 hv with h | h; exact h1 v h; rw [List.mem_singleton.1 h]; exact hf _) h2
    simp only [List.length_append, List.length_singleton] at this
    exact ⟨this.1, this.2.1, by omega, by omega⟩
theorem Qu {f : Src → Val × Src} {D : Int} (hf : ∀ x, Bg (f x).1 ≤ D) (doc : Bool) : ∀ (j : Nat) (es : List Val) (ms : List (List UInt8)) (x : Src), (∀ v ∈ es, Bg v ≤ D) → ∀ v ∈ (rdI f doc j es ms x).1, Bg v ≤ D
 | 0, es, ms, x, h1 => h1
 | j + 1, es, ms, x, h1 => by
  simp only [rdI]
  split
  ·exact h1
  ·split
   ·exact Qu hf doc j _ _ _ (fun v hv => by rcases List.mem_append.1 hv with h | h; exact h1 v h; rw [List.mem_singleton.1 h]; exact hf _)
   ·exact Qu hf doc j _ _ _ (fun v hv => by rcases List.mem_append.1 hv with h | h; exact h1 v h; rw [List.mem_singleton.1 h]; exact hf _)
theorem Id {k n : Int} {s : List UInt8} {is : List Val} {ns : List (List UInt8)} (hk : 0 ≤ k ∧ k ≤ 255) (hn : -9223372036854775808 ≤ n ∧ n ≤ 9223372036854775807) (hs : s.length ≤ 4096) (hi : is.length ≤ 4096) (hm : ns.length ≤ 4096) (hns : ∀ m ∈ ns, m.length ≤ 32) (his : ∀ v ∈ is, okV v) : okV (.mk k n s is ns) := by
 rw [okV, M5]
 exact ⟨by omega, hn, by omega, by omega, by omega, fun m hm => by have := hns m hm; omega, his⟩
theorem rdV_ok (p : Bool) : ∀ (d : Nat) (x : Src), okV (rdV p d x).1 ∧ Bg (rdV p d x).1 ≤ d + 1 := by
 intro d
 induction d with
 | zero =>
  intro x
  refine ⟨Id ?_ (by decide) (by simp) (by simp) (by simp) (by simp) (by simp), by simp [rdV, Bg, Cc]⟩
  cases p
  ·simp
  ·exact Ic x
 | succ d ih =>
  intro x
  have hb := Ic x
  have hdep : ∀ (k n : Int) (s : List UInt8) (ns : List (List UInt8)), Bg (.mk k n s [] ns) ≤ ((d + 1 : Nat) : Int) + 1 := fun k n s ns => by simp [Bg, Cc]; omega
  simp only [rdV]
  split
  ·exact ⟨Id hb (by decide) (by simp) (by simp) (by simp) (by simp) (by simp), hdep _ _ _ _⟩
  ·split
   ·have := Ic (Aq x).2
    exact ⟨Id hb (by omega) (by simp) (by simp) (by simp) (by simp) (by simp), hdep _ _ _ _⟩
   ·split
    ·exact ⟨Id hb (U9 _) (by simp) (by simp) (by simp) (by simp) (by simp), hdep _ _ _ _⟩
    ·split
     ·have := Pq (Aq x).2 4096 (by decide)
      exact ⟨Id hb (by decide) (by omega) (by simp) (by simp) (by simp) (by simp), hdep _ _ _ _⟩
     ·split
      ·obtain ⟨c1, c2⟩ := Jn (Aq x).2 4096 (by decide)
       obtain ⟨r1, r2, r3, r4⟩ := Va (fun y => (ih y).1) ((Aq x).1 == 7) (Ac (Aq x).2 4096).1.toNat [] [] (Ac (Aq x).2 4096).2 (by simp) (by simp)
       simp only [List.length_nil] at r3 r4
       refine ⟨Id hb (by decide) (by simp) (by omega) (by omega) r2 r1, ?_⟩
       rw [Bg]
       have : ∀ l : List Val, (∀ v ∈ l, Bg v ≤ (d : Int) + 1) → Cc l ≤ (d : Int) + 1 := by
        intro l
        induction l with
        | nil => intro _; simp only [Cc]; omega
        | cons v r ihl => intro h; rw [Cc]; have := h v (by simp); have := ihl (fun w hw => h w (by simp [hw])); omega
       have := this _ (Qu (fun y => (ih y).2) ((Aq x).1 == 7) (Ac (Aq x).2 4096).1.toNat [] [] (Ac (Aq x).2 4096).2 (by simp))
       omega
      ·exact ⟨Id hb (by decide) (by simp) (by simp) (by simp) (by simp) (by simp), hdep _ _ _ _⟩
def C9 (x : Src) : Val × Src := if (rdV true 8 x).2.2 = true ∨ ¬ Bp (rdV true 8 x).1 = 0 then (.mk 0 0 [] [] [], ((rdV true 8 x).2.1, true)) else rdV true 8 x
theorem sRead_le (x : Src) (hx : x.1.length ≤ 140737488355328) : (C9 x).2.1.length ≤ x.1.length := by
 have := rdV_le true 8 x hx
 unfold C9; split <;> exact this
theorem sRead_ok (x : Src) : okV (C9 x).1 ∧ Bg (C9 x).1 ≤ 9 := by
 have := rdV_ok true 8 x
 unfold C9; split
 ·exact ⟨Id (by decide) (by decide) (by simp) (by simp) (by simp) (by simp) (by simp), by simp [Bg, Cc]⟩
 ·exact this
end Go.Proofs.Ytmbjojnldbeicaa

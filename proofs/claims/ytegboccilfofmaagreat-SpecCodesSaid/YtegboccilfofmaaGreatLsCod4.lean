import Derived.Test.YtegboccilfofmaaGreatLsCod3
set_option linter.unusedVariables false
set_option maxRecDepth 100000
set_option linter.unusedSimpArgs false
namespace Go.Proofs.YtegboccilfofmaaGreat
open Go Go.LS
theorem Ht (x : Src) : 0 ≤ (Af x).1 ∧ (Af x).1 ≤ 255 := by
 unfold Af; split
 ·simp
 ·have := (x.1.getD 0 0).toNat_lt; simp only; omega
theorem S9 (x : Src) : -9223372036854775808 ≤ (F4 x).1 ∧ (F4 x).1 ≤ 9223372036854775807 := by
 unfold F4; split
 ·simp
 ·have := Uc x.1
  simp only [Vm]
  split <;> omega
theorem Kz (x : Src) (m : Int) (hm : 0 ≤ m) : ((Aq x m).1.length : Int) ≤ m := by
 unfold Aq; split
 ·simpa using hm
 ·rename_i h
  simp only [not_or] at h
  simp only [List.length_take]
  omega
theorem Ta {f : Src → Val × Src} (hf : ∀ x, okV (f x).1) (doc : Bool) : ∀ (j : Nat) (es : List Val) (ms : List (List UInt8)) (x : Src), (∀ v ∈ es, okV v) → (∀ m ∈ ms, m.length ≤ 32) →
  (∀ v ∈ (rdI f doc j es ms x).1, okV v) ∧ (∀ m ∈ (rdI f doc j es ms x).2.1, m.length ≤ 32) ∧ (rdI f doc j es ms x).1.length ≤ es.length + j ∧ (rdI f doc j es ms x).2.1.length ≤ ms.length + j
 | 0, es, ms, x, h1, h2 => ⟨h1, h2, Nat.le_refl _, Nat.le_refl _⟩
 | j + 1, es, ms, x, h1, h2 => by
  simp only [rdI]
  split
  ·exact ⟨h1, h2, Nat.le_add_right _ _, Nat.le_add_right _ _⟩
  ·split
   ·have hl := Kz x 32 (by decide)
    have := Ta hf doc j (es ++ [(f (Aq x 32).2).1]) (ms ++ [(Aq x 32).1]) (f (Aq x 32).2).2
     (fun v hv => by rcases List.mem_append.1 hv with h | h; exact h1 v h; rw [List.mem_singleton.1 h]; exact hf _)
     (fun v hv => by rcases List.mem_append.1 hv with h | h; exact h2 v h; rw [List.mem_singleton.1 h]; omega)
    simp only [List.length_append, List.length_singleton] at this
    exact ⟨this.1, this.2.1, by omega, by omega⟩
   ·have := Ta hf doc j (es ++ [(f x).1]) ms (f x).2 (fun v hv => by rcases List.mem_append.1 hv with h | h; exact h1 v h; rw [List.mem_singleton.1 h]; exact hf _) h2
    simp only [List.length_append, List.length_singleton] at this
    exact ⟨this.1, this.2.1, by omega, by omega⟩
theorem Qa {f : Src → Val × Src} {D : Int} (hf : ∀ x, Ay (f x).1 ≤ D) (doc : Bool) : ∀ (j : Nat) (es : List Val) (ms : List (List UInt8)) (x : Src), (∀ v ∈ es, Ay v ≤ D) → ∀ v ∈ (rdI f doc j es ms x).1, Ay v ≤ D
 | 0, es, ms, x, h1 => h1
 | j + 1, es, ms, x, h1 => by
  simp only [rdI]
  split
  ·exact h1
  ·split
   ·exact Qa hf doc j _ _ _ (fun v hv => by rcases List.mem_append.1 hv with h | h; exact h1 v h; rw [List.mem_singleton.1 h]; exact hf _)
   ·exact Qa hf doc j _ _ _ (fun v hv => by rcases List.mem_append.1 hv with h | h; exact h1 v h; rw [List.mem_singleton.1 h]; exact hf _)
theorem Gr {k n : Int} {s : List UInt8} {is : List Val} {ns : List (List UInt8)} (hk : 0 ≤ k ∧ k ≤ 255) (hn : -9223372036854775808 ≤ n ∧ n ≤ 9223372036854775807) (hs : s.length ≤ 4096) (hi : is.length ≤ 4096) (hm : ns.length ≤ 4096) (hns : ∀ m ∈ ns, m.length ≤ 32) (his : ∀ v ∈ is, okV v) : okV (.mk k n s is ns) := by
 rw [okV, L0]
 exact ⟨by omega, hn, by omega, by omega, by omega, fun m hm => by have := hns m hm; omega, his⟩
theorem Zi (p : Bool) : ∀ (d : Nat) (x : Src), okV (rdV p d x).1 ∧ Ay (rdV p d x).1 ≤ d + 1 := by
 intro d
 induction d with
 | zero =>
  intro x
  refine ⟨Gr ?_ (by decide) (by simp) (by simp) (by simp) (by simp) (by simp), by simp [rdV, Ay, Bs]⟩
  cases p
  ·simp
  ·exact Ht x
 | succ d ih =>
  intro x
  have hb := Ht x
  have hdep : ∀ (k n : Int) (s : List UInt8) (ns : List (List UInt8)), Ay (.mk k n s [] ns) ≤ ((d + 1 : Nat) : Int) + 1 := fun k n s ns => by simp [Ay, Bs]; omega
  simp only [rdV]
  split
  ·exact ⟨Gr hb (by decide) (by simp) (by simp) (by simp) (by simp) (by simp), hdep _ _ _ _⟩
  ·split
   ·have := Ht (Af x).2
    exact ⟨Gr hb (by omega) (by simp) (by simp) (by simp) (by simp) (by simp), hdep _ _ _ _⟩
   ·split
    ·exact ⟨Gr hb (S9 _) (by simp) (by simp) (by simp) (by simp) (by simp), hdep _ _ _ _⟩
    ·split
     ·have := Kz (Af x).2 4096 (by decide)
      exact ⟨Gr hb (by decide) (by omega) (by simp) (by simp) (by simp) (by simp), hdep _ _ _ _⟩
     ·split
      ·obtain ⟨c1, c2⟩ := E9 (Af x).2 4096 (by decide)
       obtain ⟨r1, r2, r3, r4⟩ := Ta (fun y => (ih y).1) ((Af x).1 == 7) (Ar (Af x).2 4096).1.toNat [] [] (Ar (Af x).2 4096).2 (by simp) (by simp)
       simp only [List.length_nil] at r3 r4
       refine ⟨Gr hb (by decide) (by simp) (by omega) (by omega) r2 r1, ?_⟩
       rw [Ay]
       have : ∀ l : List Val, (∀ v ∈ l, Ay v ≤ (d : Int) + 1) → Bs l ≤ (d : Int) + 1 := by
        intro l
        induction l with
        | nil => intro _; simp only [Bs]; omega
        | cons v r ihl => intro h; rw [Bs]; have := h v (by simp); have := ihl (fun w hw => h w (by simp [hw])); omega
       have := this _ (Qa (fun y => (ih y).2) ((Af x).1 == 7) (Ar (Af x).2 4096).1.toNat [] [] (Ar (Af x).2 4096).2 (by simp))
       omega
      ·exact ⟨Gr hb (by decide) (by simp) (by simp) (by simp) (by simp) (by simp), hdep _ _ _ _⟩
def Ek (x : Src) : Val × Src := if (rdV true 8 x).2.2 = true ∨ ¬ Av (rdV true 8 x).1 = 0 then (.mk 0 0 [] [] [], ((rdV true 8 x).2.1, true)) else rdV true 8 x
theorem Zj (x : Src) (hx : x.1.length ≤ 140737488355328) : (Ek x).2.1.length ≤ x.1.length := by
 have := Zh true 8 x hx
 unfold Ek; split <;> exact this
theorem Rv (x : Src) : okV (Ek x).1 ∧ Ay (Ek x).1 ≤ 9 := by
 have := Zi true 8 x
 unfold Ek; split
 ·exact ⟨Gr (by decide) (by decide) (by simp) (by simp) (by simp) (by simp) (by simp), by simp [Ay, Bs]⟩
 ·exact this
end Go.Proofs.YtegboccilfofmaaGreat

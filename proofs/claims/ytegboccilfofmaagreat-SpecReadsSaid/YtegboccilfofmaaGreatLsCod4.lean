import Derived.Test.YtegboccilfofmaaGreatLsCod3
set_option linter.unusedVariables false
set_option maxRecDepth 100000
set_option linter.unusedSimpArgs false
namespace Go.Proofs.YtegboccilfofmaaGreat
open Go Go.LS
theorem Kn {f g : Src → Val × Src} (h : ∀ x, (f x).2 = (g x).2 ∧ ((f x).2.2 = false → f x = g x)) (hb : ∀ x, x.2 = true → (f x).2.2 = true) (doc : Bool) :
  ∀ (j : Nat) (es es' : List Val) (ms : List (List UInt8)) (x : Src), (x.2 = false → es = es') → (rdI f doc j es ms x).2.2 = (rdI g doc j es' ms x).2.2 ∧ ((rdI f doc j es ms x).2.2.2 = false → rdI f doc j es ms x = rdI g doc j es' ms x)
 | 0, es, es', ms, x, he => ⟨rfl, fun hx => by simp only [rdI] at hx ⊢; rw [he hx]⟩
 | j + 1, es, es', ms, x, he => by
  simp only [rdI]
  cases hx : x.2 with
  | true => simp only [if_true]; exact ⟨trivial, fun h => absurd (hx.symm.trans h) (by decide)⟩
  | false =>
   have he := he hx
   subst he
   simp only [Bool.false_eq_true, if_false]
   cases doc with
   | true =>
    simp only [if_true]
    obtain ⟨h1, h2⟩ := h (Aj x 32).2
    rw [← h1]
    refine Kn h hb true j _ _ _ _ (fun hh => ?_)
    rw [h2 hh]
   | false =>
    simp only [Bool.false_eq_true, if_false]
    obtain ⟨h1, h2⟩ := h x
    rw [← h1]
    refine Kn h hb false j _ _ _ _ (fun hh => ?_)
    rw [h2 hh]
theorem M4 {x : Src} (h : x.2 = true) : Aa x = (0, x.1, true) := by rw [Aa, if_pos (.inl h)]
theorem M5 (p : Bool) (d : Nat) {x : Src} (h : x.2 = true) : rdV p d x = (.mk 0 0 [] [] [], (x.1, true)) := by
 cases d with
 | zero => simp only [rdV, M4 h]; cases p <;> rfl
 | succ d => simp only [rdV, M4 h]; rfl
theorem Vr : ∀ (d : Nat) (x : Src), (rdV true d x).2 = (rdV false d x).2 ∧ ((rdV true d x).2.2 = false → rdV true d x = rdV false d x) := by
 intro d
 induction d with
 | zero => intro x; exact ⟨rfl, fun h => by cases h⟩
 | succ d ih =>
  intro x
  have hI := Kn ih (fun y hy => by rw [M5 _ _ hy]) ((Aa x).1 == 7) (Ai (Aa x).2 4096).1.toNat [] [] [] (Ai (Aa x).2 4096).2 (fun _ => rfl)
  simp only [rdV]
  split
  ·exact ⟨rfl, fun _ => rfl⟩
  ·split
   ·exact ⟨rfl, fun _ => rfl⟩
   ·split
    ·exact ⟨rfl, fun _ => rfl⟩
    ·split
     ·exact ⟨rfl, fun _ => rfl⟩
     ·split
      ·exact ⟨hI.1, fun h => by rw [hI.2 h]⟩
      ·exact ⟨rfl, fun _ => rfl⟩
theorem Hk (x : Src) : 0 ≤ (Aa x).1 ∧ (Aa x).1 ≤ 255 := by
 unfold Aa; split
 ·simp
 ·have := (x.1.getD 0 0).toNat_lt; simp only; omega
theorem S5 (x : Src) : -9223372036854775808 ≤ (Dk x).1 ∧ (Dk x).1 ≤ 9223372036854775807 := by
 unfold Dk; split
 ·simp
 ·have := Ph x.1
  simp only [Vo]
  split <;> omega
theorem Ko (x : Src) (m : Int) (hm : 0 ≤ m) : ((Aj x m).1.length : Int) ≤ m := by
 unfold Aj; split
 ·simpa using hm
 ·rename_i h
  simp only [not_or] at h
  simp only [List.length_take]
  omega
theorem S6 {f : Src → Val × Src} (hf : ∀ x, okV (f x).1) (doc : Bool) : ∀ (j : Nat) (es : List Val) (ms : List (List UInt8)) (x : Src), (∀ v ∈ es, okV v) → (∀ m ∈ ms, m.length ≤ 32) →
  (∀ v ∈ (rdI f doc j es ms x).1, okV v) ∧ (∀ m ∈ (rdI f doc j es ms x).2.1, m.length ≤ 32) ∧ (rdI f doc j es ms x).1.length ≤ es.length + j ∧ (rdI f doc j es ms x).2.1.length ≤ ms.length + j
 | 0, es, ms, x, h1, h2 => ⟨h1, h2, Nat.le_refl _, Nat.le_refl _⟩
 | j + 1, es, ms, x, h1, h2 => by
  simp only [rdI]
  split
  ·exact ⟨h1, h2, Nat.le_add_right _ _, Nat.le_add_right _ _⟩
  ·split
   ·have hl := Ko x 32 (by decide)
    have := S6 hf doc j (es ++ [(f (Aj x 32).2).1]) (ms ++ [(Aj x 32).1]) (f (Aj x 32).2).2
     (fun v hv => by rcases List.mem_append.1 hv with h | h; exact h1 v h; rw [List.mem_singleton.1 h]; exact hf _)
     (fun v hv => by rcases List.mem_append.1 hv with h | h; exact h2 v h; rw [List.mem_singleton.1 h]; omega)
    simp only [List.length_append, List.length_singleton] at this
    exact ⟨this.1, this.2.1, by omega, by omega⟩
   ·have := S6 hf doc j (es ++ [(f x).1]) ms (f x).2 (fun v hv => by rcases List.mem_append.1 hv with h | h; exact h1 v h; rw [List.mem_singleton.1 h]; exact hf _) h2
    simp only [List.length_append, List.length_singleton] at this
    exact ⟨this.1, this.2.1, by omega, by omega⟩
theorem Pr {f : Src → Val × Src} {D : Int} (hf : ∀ x, Ax (f x).1 ≤ D) (doc : Bool) : ∀ (j : Nat) (es : List Val) (ms : List (List UInt8)) (x : Src), (∀ v ∈ es, Ax v ≤ D) → ∀ v ∈ (rdI f doc j es ms x).1, Ax v ≤ D
 | 0, es, ms, x, h1 => h1
 | j + 1, es, ms, x, h1 => by
  simp only [rdI]
  split
  ·exact h1
  ·split
   ·exact Pr hf doc j _ _ _ (fun v hv => by rcases List.mem_append.1 hv with h | h; exact h1 v h; rw [List.mem_singleton.1 h]; exact hf _)
   ·exact Pr hf doc j _ _ _ (fun v hv => by rcases List.mem_append.1 hv with h | h; exact h1 v h; rw [List.mem_singleton.1 h]; exact hf _)
theorem Gg {k n : Int} {s : List UInt8} {is : List Val} {ns : List (List UInt8)} (hk : 0 ≤ k ∧ k ≤ 255) (hn : -9223372036854775808 ≤ n ∧ n ≤ 9223372036854775807) (hs : s.length ≤ 4096) (hi : is.length ≤ 4096) (hm : ns.length ≤ 4096) (hns : ∀ m ∈ ns, m.length ≤ 32) (his : ∀ v ∈ is, okV v) : okV (.mk k n s is ns) := by
 rw [okV, Ls]
 exact ⟨by omega, hn, by omega, by omega, by omega, fun m hm => by have := hns m hm; omega, his⟩
theorem S7 (p : Bool) : ∀ (d : Nat) (x : Src), okV (rdV p d x).1 ∧ Ax (rdV p d x).1 ≤ d + 1 := by
 intro d
 induction d with
 | zero =>
  intro x
  refine ⟨Gg ?_ (by decide) (by simp) (by simp) (by simp) (by simp) (by simp), by simp [rdV, Ax, Bo]⟩
  cases p
  ·simp
  ·exact Hk x
 | succ d ih =>
  intro x
  have hb := Hk x
  have hdep : ∀ (k n : Int) (s : List UInt8) (ns : List (List UInt8)), Ax (.mk k n s [] ns) ≤ ((d + 1 : Nat) : Int) + 1 := fun k n s ns => by simp [Ax, Bo]; omega
  simp only [rdV]
  split
  ·exact ⟨Gg hb (by decide) (by simp) (by simp) (by simp) (by simp) (by simp), hdep _ _ _ _⟩
  ·split
   ·have := Hk (Aa x).2
    exact ⟨Gg hb (by omega) (by simp) (by simp) (by simp) (by simp) (by simp), hdep _ _ _ _⟩
   ·split
    ·exact ⟨Gg hb (S5 _) (by simp) (by simp) (by simp) (by simp) (by simp), hdep _ _ _ _⟩
    ·split
     ·have := Ko (Aa x).2 4096 (by decide)
      exact ⟨Gg hb (by decide) (by omega) (by simp) (by simp) (by simp) (by simp), hdep _ _ _ _⟩
     ·split
      ·obtain ⟨c1, c2⟩ := Cm (Aa x).2 4096 (by decide)
       obtain ⟨r1, r2, r3, r4⟩ := S6 (fun y => (ih y).1) ((Aa x).1 == 7) (Ai (Aa x).2 4096).1.toNat [] [] (Ai (Aa x).2 4096).2 (by simp) (by simp)
       simp only [List.length_nil] at r3 r4
       refine ⟨Gg hb (by decide) (by simp) (by omega) (by omega) r2 r1, ?_⟩
       rw [Ax]
       have : ∀ l : List Val, (∀ v ∈ l, Ax v ≤ (d : Int) + 1) → Bo l ≤ (d : Int) + 1 := by
        intro l
        induction l with
        | nil => intro _; simp only [Bo]; omega
        | cons v r ihl => intro h; rw [Bo]; have := h v (by simp); have := ihl (fun w hw => h w (by simp [hw])); omega
       have := this _ (Pr (fun y => (ih y).2) ((Aa x).1 == 7) (Ai (Aa x).2 4096).1.toNat [] [] (Ai (Aa x).2 4096).2 (by simp))
       omega
      ·exact ⟨Gg hb (by decide) (by simp) (by simp) (by simp) (by simp) (by simp), hdep _ _ _ _⟩
def Cw (x : Src) : Val × Src := if (rdV true 8 x).2.2 = true ∨ ¬ Av (rdV true 8 x).1 = 0 then (.mk 0 0 [] [] [], ((rdV true 8 x).2.1, true)) else rdV true 8 x
theorem Rl (x : Src) (hx : x.1.length ≤ 140737488355328) : (Cw x).2.1.length ≤ x.1.length := by
 have := S4 true 8 x hx
 unfold Cw; split <;> exact this
theorem Js (x : Src) : okV (Cw x).1 ∧ Ax (Cw x).1 ≤ 9 := by
 have := S7 true 8 x
 unfold Cw; split
 ·exact ⟨Gg (by decide) (by decide) (by simp) (by simp) (by simp) (by simp) (by simp), by simp [Ax, Bo]⟩
 ·exact this
end Go.Proofs.YtegboccilfofmaaGreat

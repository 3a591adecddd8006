import Derived.Test.YtmbjojnldbeicaaLsCod3
set_option linter.unusedVariables false
set_option linter.unusedSimpArgs false
set_option maxRecDepth 100000
set_option linter.unusedSimpArgs false
namespace Go.Proofs.Ytmbjojnldbeicaa
open Go Go.LS
theorem Kd {f g : Src → Val × Src} (h : ∀ x, (f x).2 = (g x).2 ∧ ((f x).2.2 = false → f x = g x)) (hb : ∀ x, x.2 = true → (f x).2.2 = true) (doc : Bool) :
  ∀ (j : Nat) (es es' : List Val) (ms : List (List UInt8)) (x : Src), (x.2 = false → es = es') → (rdI f doc j es ms x).2.2 = (rdI g doc j es' ms x).2.2 ∧ ((rdI f doc j es ms x).2.2.2 = false → rdI f doc j es ms x = rdI g doc j es' ms x)
 | 0, es, es', ms, x, he => ⟨rfl, fun hx => by simp only [rdI] at hx ⊢; rw [he hx]⟩
 | j + 1, es, es', ms, x, he => by
  simp only [rdI]
  cases hx : x.2 with
  | true => simp only [if_true]; exact ⟨trivial, fun h => absurd (hx.symm.trans h) (by decide)⟩
  | false =>
   have he := he hx
   subst he
   simp only [Bool.false_eq_true, if_false]
   cases doc with
   | true =>
    simp only [if_true]
    obtain ⟨h1, h2⟩ := h (Al x 32).2
    rw [← h1]
    refine Kd h hb true j _ _ _ _ (fun hh => ?_)
    rw [h2 hh]
   | false =>
    simp only [Bool.false_eq_true, if_false]
    obtain ⟨h1, h2⟩ := h x
    rw [← h1]
    refine Kd h hb false j _ _ _ _ (fun hh => ?_)
    rw [h2 hh]
theorem Mw {x : Src} (h : x.2 = true) : Ab x = (0, x.1, true) := by rw [Ab, if_pos (.inl h)]
theorem Q3 (p : Bool) (d : Nat) {x : Src} (h : x.2 = true) : rdV p d x = (.mk 0 0 [] [] [], (x.1, true)) := by
 cases d with
 | zero => simp only [rdV, Mw h]; cases p <;> rfl
 | succ d => simp only [rdV, Mw h]; rfl
theorem Vc : ∀ (d : Nat) (x : Src), (rdV true d x).2 = (rdV false d x).2 ∧ ((rdV true d x).2.2 = false → rdV true d x = rdV false d x) := by
 intro d
 induction d with
 | zero => intro x; exact ⟨rfl, fun h => by cases h⟩
 | succ d ih =>
  intro x
  have hI := Kd ih (fun y hy => by rw [Q3 _ _ hy]) ((Ab x).1 == 7) (Aa (Ab x).2 4096).1.toNat [] [] [] (Aa (Ab x).2 4096).2 (fun _ => rfl)
  simp only [rdV]
  split
  ·exact ⟨rfl, fun _ => rfl⟩
  ·split
   ·exact ⟨rfl, fun _ => rfl⟩
   ·split
    ·exact ⟨rfl, fun _ => rfl⟩
    ·split
     ·exact ⟨rfl, fun _ => rfl⟩
     ·split
      ·exact ⟨hI.1, fun h => by rw [hI.2 h]⟩
      ·exact ⟨rfl, fun _ => rfl⟩
theorem Ha (x : Src) : 0 ≤ (Ab x).1 ∧ (Ab x).1 ≤ 255 := by
 unfold Ab; split
 ·simp
 ·have := (x.1.getD 0 0).toNat_lt; simp only; omega
theorem Sm (x : Src) : -9223372036854775808 ≤ (Dl x).1 ∧ (Dl x).1 ≤ 9223372036854775807 := by
 unfold Dl; split
 ·simp
 ·have := Oz x.1
  simp only [U9]
  split <;> omega
theorem N0 (x : Src) (m : Int) (hm : 0 ≤ m) : ((Al x m).1.length : Int) ≤ m := by
 unfold Al; split
 ·simpa using hm
 ·rename_i h
  simp only [not_or] at h
  simp only [List.length_take]
  omega
theorem Sn {f : Src → Val × Src} (hf : ∀ x, okV (f x).1) (doc : Bool) : ∀ (j : Nat) (es : List Val) (ms : List (List UInt8)) (x : Src), (∀ v ∈ es, okV v) → (∀ m ∈ ms, m.length ≤ 32) →
  (∀ v ∈ (rdI f doc j es ms x).1, okV v) ∧ (∀ m ∈ (rdI f doc j es ms x).2.1, m.length ≤ 32) ∧ (rdI f doc j es ms x).1.length ≤ es.length + j ∧ (rdI f doc j es ms x).2.1.length ≤ ms.length + j
 | 0, es, ms, x, h1, h2 => ⟨h1, h2, Nat.le_refl _, Nat.le_refl _⟩
 | j + 1, es, ms, x, h1, h2 => by
  simp only [rdI]
  split
  ·exact ⟨h1, h2, Nat.le_add_right _ _, Nat.le_add_right _ _⟩
  ·split
   ·have hl := N0 x 32 (by decide)
    have := Sn hf doc j (es ++ [(f (Al x 32).2).1]) (ms ++ [(Al x 32).1]) (f (Al x 32).2).2
     (fun v hv => by rcases List.mem_append.1 hv with h | h; exact h1 v h; rw [List.mem_singleton.1 h]; exact hf _)
     (fun v hv => by rcases List.mem_append.1 hv with h | h; exact h2 v h; rw [List.mem_singleton.1 h]; omega)
    simp only [List.length_append, List.length_singleton] at this
    exact ⟨this.1, this.2.1, by omega, by omega⟩
   ·have := Sn hf doc j (es ++ [(f x).1]) ms (f x).2 (fun v hv => by rcases List.mem_append.1 hv with h | h; exact h1 v h; rw [List.mem_singleton.1 h]; exact hf _) h2
    simp only [List.length_append, List.length_singleton] at this
    exact ⟨this.1, this.2.1, by omega, by omega⟩
theorem Pa {f : Src → Val × Src} {D : Int} (hf : ∀ x, Bm (f x).1 ≤ D) (doc : Bool) : ∀ (j : Nat) (es : List Val) (ms : List (List UInt8)) (x : Src), (∀ v ∈ es, Bm v ≤ D) → ∀ v ∈ (rdI f doc j es ms x).1, Bm v ≤ D
 | 0, es, ms, x, h1 => h1
 | j + 1, es, ms, x, h1 => by
  simp only [rdI]
  split
  ·exact h1
  ·split
   ·exact Pa hf doc j _ _ _ (fun v hv => by rcases List.mem_append.1 hv with h | h; exact h1 v h; rw [List.mem_singleton.1 h]; exact hf _)
   ·exact Pa hf doc j _ _ _ (fun v hv => by rcases List.mem_append.1 hv with h | h; exact h1 v h; rw [List.mem_singleton.1 h]; exact hf _)
theorem Hb {k n : Int} {s : List UInt8} {is : List Val} {ns : List (List UInt8)} (hk : 0 ≤ k ∧ k ≤ 255) (hn : -9223372036854775808 ≤ n ∧ n ≤ 9223372036854775807) (hs : s.length ≤ 4096) (hi : is.length ≤ 4096) (hm : ns.length ≤ 4096) (hns : ∀ m ∈ ns, m.length ≤ 32) (his : ∀ v ∈ is, okV v) : okV (.mk k n s is ns) := by
 rw [okV, Lk]
 exact ⟨by omega, hn, by omega, by omega, by omega, fun m hm => by have := hns m hm; omega, his⟩
theorem So (p : Bool) : ∀ (d : Nat) (x : Src), okV (rdV p d x).1 ∧ Bm (rdV p d x).1 ≤ d + 1 := by
 intro d
 induction d with
 | zero =>
  intro x
  refine ⟨Hb ?_ (by decide) (by simp) (by simp) (by simp) (by simp) (by simp), by simp [rdV, Bm, B8]⟩
  cases p
  ·simp
  ·exact Ha x
 | succ d ih =>
  intro x
  have hb := Ha x
  have hdep : ∀ (k n : Int) (s : List UInt8) (ns : List (List UInt8)), Bm (.mk k n s [] ns) ≤ ((d + 1 : Nat) : Int) + 1 := fun k n s ns => by simp [Bm, B8]; omega
  simp only [rdV]
  split
  ·exact ⟨Hb hb (by decide) (by simp) (by simp) (by simp) (by simp) (by simp), hdep _ _ _ _⟩
  ·split
   ·have := Ha (Ab x).2
    exact ⟨Hb hb (by omega) (by simp) (by simp) (by simp) (by simp) (by simp), hdep _ _ _ _⟩
   ·split
    ·exact ⟨Hb hb (Sm _) (by simp) (by simp) (by simp) (by simp) (by simp), hdep _ _ _ _⟩
    ·split
     ·have := N0 (Ab x).2 4096 (by decide)
      exact ⟨Hb hb (by decide) (by omega) (by simp) (by simp) (by simp) (by simp), hdep _ _ _ _⟩
     ·split
      ·obtain ⟨c1, c2⟩ := F7 (Ab x).2 4096 (by decide)
       obtain ⟨r1, r2, r3, r4⟩ := Sn (fun y => (ih y).1) ((Ab x).1 == 7) (Aa (Ab x).2 4096).1.toNat [] [] (Aa (Ab x).2 4096).2 (by simp) (by simp)
       simp only [List.length_nil] at r3 r4
       refine ⟨Hb hb (by decide) (by simp) (by omega) (by omega) r2 r1, ?_⟩
       rw [Bm]
       have : ∀ l : List Val, (∀ v ∈ l, Bm v ≤ (d : Int) + 1) → B8 l ≤ (d : Int) + 1 := by
        intro l
        induction l with
        | nil => intro _; simp only [B8]; omega
        | cons v r ihl => intro h; rw [B8]; have := h v (by simp); have := ihl (fun w hw => h w (by simp [hw])); omega
       have := this _ (Pa (fun y => (ih y).2) ((Ab x).1 == 7) (Aa (Ab x).2 4096).1.toNat [] [] (Aa (Ab x).2 4096).2 (by simp))
       omega
      ·exact ⟨Hb hb (by decide) (by simp) (by simp) (by simp) (by simp) (by simp), hdep _ _ _ _⟩
def A5 (x : Src) : Val × Src := if (rdV true 8 x).2.2 = true ∨ ¬ Dz (rdV true 8 x).1 = 0 then (.mk 0 0 [] [] [], ((rdV true 8 x).2.1, true)) else rdV true 8 x
theorem X0 (x : Src) (hx : x.1.length ≤ 140737488355328) : (A5 x).2.1.length ≤ x.1.length := by
 have := Sl true 8 x hx
 unfold A5; split <;> exact this
theorem X1 (x : Src) : okV (A5 x).1 ∧ Bm (A5 x).1 ≤ 9 := by
 have := So true 8 x
 unfold A5; split
 ·exact ⟨Hb (by decide) (by decide) (by simp) (by simp) (by simp) (by simp) (by simp), by simp [Bm, B8]⟩
 ·exact this
end Go.Proofs.Ytmbjojnldbeicaa

import Derived.Test.YtmflmbfheaaglaaLsCod3
set_option linter.unusedVariables false
set_option maxRecDepth 100000
set_option linter.unusedSimpArgs false
namespace Go.Proofs.Ytmflmbfheaaglaa
open Go Go.LS
theorem sByte_range (x : Src) : 0 ≤ (sByte x).1 ∧ (sByte x).1 ≤ 255 := by
  unfold sByte; split
  · simp
  · have := (x.1.getD 0 0).toNat_lt; simp only; omega
theorem sInt_range (x : Src) : -9223372036854775808 ≤ (sInt x).1 ∧ (sInt x).1 ≤ 9223372036854775807 := by
  unfold sInt; split
  · simp
  · have := gnum_lt x.1
    simp only [unzz]
    split <;> omega
theorem sText_len (x : Src) (m : Int) (hm : 0 ≤ m) : ((sText x m).1.length : Int) ≤ m := by
  unfold sText; split
  · simpa using hm
  · rename_i h
    simp only [not_or] at h
    simp only [List.length_take]
    omega
theorem rdI_ok {f : Src → Val × Src} (hf : ∀ x, okV (f x).1) (doc : Bool) : ∀ (j : Nat) (es : List Val) (ms : List (List UInt8)) (x : Src), (∀ v ∈ es, okV v) → (∀ m ∈ ms, m.length ≤ 32) →
    (∀ v ∈ (rdI f doc j es ms x).1, okV v) ∧ (∀ m ∈ (rdI f doc j es ms x).2.1, m.length ≤ 32) ∧ (rdI f doc j es ms x).1.length ≤ es.length + j ∧ (rdI f doc j es ms x).2.1.length ≤ ms.length + j
  | 0, es, ms, x, h1, h2 => ⟨h1, h2, Nat.le_refl _, Nat.le_refl _⟩
  | j + 1, es, ms, x, h1, h2 => by
    simp only [rdI]
    split
    · exact ⟨h1, h2, Nat.le_add_right _ _, Nat.le_add_right _ _⟩
    · split
      · have hl := sText_len x 32 (by decide)
        have := rdI_ok hf doc j (es ++ [(f (sText x 32).2).1]) (ms ++ [(sText x 32).1]) (f (sText x 32).2).2
          (fun v hv => by rcases List.mem_append.1 hv with h | h; exact h1 v h; rw [List.mem_singleton.1 h]; exact hf _)
          (fun v hv => by rcases List.mem_append.1 hv with h | h; exact h2 v h; rw [List.mem_singleton.1 h]; omega)
        simp only [List.length_append, List.length_singleton] at this
        exact ⟨this.1, this.2.1, by omega, by omega⟩
      · have := rdI_ok hf doc j (es ++ [(f x).1]) ms (f x).2 (fun v hv => by rcases List.mem_append.1 hv with h | h; exact h1 v h; rw [List.mem_singleton.1 h]; exact hf _) h2
        simp only [List.length_append, List.length_singleton] at this
        exact ⟨this.1, this.2.1, by omega, by omega⟩
theorem rdI_dep {f : Src → Val × Src} {D : Int} (hf : ∀ x, depthV (f x).1 ≤ D) (doc : Bool) : ∀ (j : Nat) (es : List Val) (ms : List (List UInt8)) (x : Src), (∀ v ∈ es, depthV v ≤ D) → ∀ v ∈ (rdI f doc j es ms x).1, depthV v ≤ D
  | 0, es, ms, x, h1 => h1
  | j + 1, es, ms, x, h1 => by
    simp only [rdI]
    split
    · exact h1
    · split
      · exact rdI_dep hf doc j _ _ _ (fun v hv => by rcases List.mem_append.1 hv with h | h; exact h1 v h; rw [List.mem_singleton.1 h]; exact hf _)
      · exact rdI_dep hf doc j _ _ _ (fun v hv => by rcases List.mem_append.1 hv with h | h; exact h1 v h; rw [List.mem_singleton.1 h]; exact hf _)
theorem okV_mk {k n : Int} {s : List UInt8} {is : List Val} {ns : List (List UInt8)} (hk : 0 ≤ k ∧ k ≤ 255) (hn : -9223372036854775808 ≤ n ∧ n ≤ 9223372036854775807) (hs : s.length ≤ 4096) (hi : is.length ≤ 4096) (hm : ns.length ≤ 4096) (hns : ∀ m ∈ ns, m.length ≤ 32) (his : ∀ v ∈ is, okV v) : okV (.mk k n s is ns) := by
  rw [okV, okL_all]
  exact ⟨by omega, hn, by omega, by omega, by omega, fun m hm => by have := hns m hm; omega, his⟩
theorem rdV_ok (p : Bool) : ∀ (d : Nat) (x : Src), okV (rdV p d x).1 ∧ depthV (rdV p d x).1 ≤ d + 1 := by
  intro d
  induction d with
  | zero =>
    intro x
    refine ⟨okV_mk ?_ (by decide) (by simp) (by simp) (by simp) (by simp) (by simp), by simp [rdV, depthV, depthL]⟩
    cases p
    · simp
    · exact sByte_range x
  | succ d ih =>
    intro x
    have hb := sByte_range x
    have hdep : ∀ (k n : Int) (s : List UInt8) (ns : List (List UInt8)), depthV (.mk k n s [] ns) ≤ ((d + 1 : Nat) : Int) + 1 := fun k n s ns => by simp [depthV, depthL]; omega
    simp only [rdV]
    split
    · exact ⟨okV_mk hb (by decide) (by simp) (by simp) (by simp) (by simp) (by simp), hdep _ _ _ _⟩
    · split
      · have := sByte_range (sByte x).2
        exact ⟨okV_mk hb (by omega) (by simp) (by simp) (by simp) (by simp) (by simp), hdep _ _ _ _⟩
      · split
        · exact ⟨okV_mk hb (sInt_range _) (by simp) (by simp) (by simp) (by simp) (by simp), hdep _ _ _ _⟩
        · split
          · have := sText_len (sByte x).2 4096 (by decide)
            exact ⟨okV_mk hb (by decide) (by omega) (by simp) (by simp) (by simp) (by simp), hdep _ _ _ _⟩
          · split
            · obtain ⟨c1, c2⟩ := sCount_max (sByte x).2 4096 (by decide)
              obtain ⟨r1, r2, r3, r4⟩ := rdI_ok (fun y => (ih y).1) ((sByte x).1 == 7) (sCount (sByte x).2 4096).1.toNat [] [] (sCount (sByte x).2 4096).2 (by simp) (by simp)
              simp only [List.length_nil] at r3 r4
              refine ⟨okV_mk hb (by decide) (by simp) (by omega) (by omega) r2 r1, ?_⟩
              rw [depthV]
              have : ∀ l : List Val, (∀ v ∈ l, depthV v ≤ (d : Int) + 1) → depthL l ≤ (d : Int) + 1 := by
                intro l
                induction l with
                | nil => intro _; simp only [depthL]; omega
                | cons v r ihl => intro h; rw [depthL]; have := h v (by simp); have := ihl (fun w hw => h w (by simp [hw])); omega
              have := this _ (rdI_dep (fun y => (ih y).2) ((sByte x).1 == 7) (sCount (sByte x).2 4096).1.toNat [] [] (sCount (sByte x).2 4096).2 (by simp))
              omega
            · exact ⟨okV_mk hb (by decide) (by simp) (by simp) (by simp) (by simp) (by simp), hdep _ _ _ _⟩
def sRead (x : Src) : Val × Src := if (rdV true 8 x).2.2 = true ∨ ¬ checkV (rdV true 8 x).1 = 0 then (.mk 0 0 [] [] [], ((rdV true 8 x).2.1, true)) else rdV true 8 x
end Go.Proofs.Ytmflmbfheaaglaa

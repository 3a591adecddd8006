/- A table of functions. -/
import Derived.Test.YthiilhepneddpaaLsCompile
namespace Go.LS
def AllFR (P : Program) : Nat → List (Option LFn) → Prop
  | _, [] => True
  | k, none :: r => AllFR P (k + 1) r
  | k, some lf :: r => FR P k lf ∧ AllFR P (k + 1) r

theorem AllFR.get {P : Program} : ∀ {l : List (Option LFn)} {k : Nat}, AllFR P k l → ∀ (i : Nat) lf, l[i]? = some (some lf) → FR P (k + i) lf
  | [], k, _, i, lf, h => by simp at h
  | none :: r, k, h, i, lf, hi => by
    cases i with
    | zero => simp at hi
    | succ i => have := AllFR.get (l := r) (k := k + 1) h i lf (by simpa using hi); rwa [Nat.add_assoc, Nat.add_comm 1] at this
  | some x :: r, k, h, i, lf, hi => by
    cases i with
    | zero => simp at hi; subst hi; exact h.1
    | succ i => have := AllFR.get (l := r) (k := k + 1) h.2 i lf (by simpa using hi); rwa [Nat.add_assoc, Nat.add_comm 1] at this

def lpOf (tab : List (Option LFn)) (weak : List Nat) : LProg := { fns := fun f => match tab[f]? with | some x => x | none => none, summ := fun _ => none, weak := fun f => weak.contains f }

theorem prOf {P : Program} (tab : List (Option LFn)) (weak : List Nat) (h : AllFR P 0 tab) : PR P (lpOf tab weak) where
  fns f lf hf := by
    simp only [lpOf] at hf
    split at hf
    · rename_i x hx
      subst hf
      have := h.get f lf hx
      simpa using this
    · cases hf
  summ f g h := by simp [lpOf] at h
end Go.LS

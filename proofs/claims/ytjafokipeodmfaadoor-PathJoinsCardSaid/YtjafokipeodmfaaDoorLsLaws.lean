import Derived.Test.YtjafokipeodmfaaDoorLsLawsW
set_option linter.unusedVariables false
set_option maxRecDepth 100000
set_option linter.unusedSimpArgs false
namespace Go.Proofs.YtjafokipeodmfaaDoor
open Go Go.LS
theorem lives : Runs lp 8 [] [] (.p (.bool true), []) := ⟨30, by kernel_rfl⟩
theorem growT {g : Int} (h0 : 0 < g) (h1 : g ≤ 1000000) : Runs lp 38 [.tight [], .p (.int .i64 g)] [] (.sl [] 0 0, [.spare 1 0]) := by
  have e : IntKind.wrap .i64 (g - 0) = g := by rw [wrap_i64 (by omega) (by omega)]; omega
  refine ifE (grow0 (decide_eq_false (by omega)) (fun _ => by rw [e]; exact ⟨h0, by simp [roomy]; omega, by omega⟩)) ?_
  rw [e, decide_eq_true (show g > 0 by omega)]
  rfl
theorem growF {g : Int} (h0 : g = 0) : Runs lp 38 [.tight [], .p (.int .i64 g)] [] (.tight [], []) := by
  subst h0
  exact ifE (grow0 rfl (fun h => absurd h (by decide))) rfl
theorem concat {ns ms : List (List UInt8)} (hn : ns.length ≤ 50) (hm : ms.length ≤ 50) : Runs lp 30 [.tight [[.sl (rowsN ns)], [.sl (rowsN ms)]]] [] (.p (.sl (rowsN (ns ++ ms))), []) := by
  have e1 : IntKind.wrap .i64 (0 + ((List.length (rowsN ns) : Nat) : Int)) = (ns.length : Int) := by rw [rowsN_len, wrap_i64 (by omega) (by omega)]; omega
  have e2 : IntKind.wrap .i64 (IntKind.wrap .i64 (0 + ((List.length (rowsN ns) : Nat) : Int)) + ((List.length (rowsN ms) : Nat) : Int)) = ((ns.length + ms.length : Nat) : Int) := by rw [e1, rowsN_len, wrap_i64 (by omega) (by omega)]; omega
  refine ifE (cc0 (by rw [e1]; exact decide_eq_false (by omega)) (by rw [e2]; exact decide_eq_false (by omega)) (fun h => growT (by rw [e2] at h ⊢; exact of_decide_eq_true h) (by rw [e2]; omega)) (fun _ => by simp; omega) (fun _ => by omega)
    (fun h => growF (by rw [e2] at h ⊢; have := of_decide_eq_false h; omega)) (fun _ _ _ => by omega) (fun _ _ => by omega) (fun _ _ => by omega)) ?_
  rw [e2]
  split
  · rfl
  · split
    · rename_i h
      have h := of_decide_eq_true h
      subst h
      split
      · rename_i h; have h := of_decide_eq_true h; subst h; rfl
      · rfl
    · rfl
theorem checked {ns : List (List UInt8)} (hl : ns.length ≤ 140737488355328) : Runs lp 22 [.p (.sl (rowsN ns))] [] (if pathB ns = true then (.tup [.p (.sl (rowsN ns)), .p (.int .i64 0)], []) else (.tup [.p (.sl []), .p (.int .i64 40)], [])) := chk0 (pMay hl)
theorem pJoin {ns ms : List (List UInt8)} (hn : ns.length ≤ 50) (hm : ms.length ≤ 50) : Runs lp 21 [.p (.sl (rowsN ns)), .p (.sl (rowsN ms))] [] (if pathB (ns ++ ms) = true then (.tup [.p (.sl (rowsN (ns ++ ms))), .p (.int .i64 0)], []) else (.tup [.p (.sl []), .p (.int .i64 40)], [])) := by
  have c := checked (ns := ns ++ ms) (by simp; omega)
  exact join0 (concat hn hm) (fun h => by rw [if_pos h] at c; exact c) (fun h => by rw [if_neg (by rw [h]; decide)] at c; exact c)
theorem prefix_app (a x : List (List UInt8)) : List.isPrefixOf a (a ++ x) = true := by
  induction a with
  | nil => cases x <;> rfl
  | cons y r ih => simp [List.isPrefixOf, ih]
theorem lawJn {ns ms : List (List UInt8)} (hn : ns.length ≤ 140737488355328) (hm : ms.length ≤ 140737488355328) (sn : ∀ x ∈ ns, x.length ≤ 140737488355328) (sm : ∀ x ∈ ms, x.length ≤ 140737488355328) : Runs lp 7 [.p (.sl (rowsN ns)), .p (.sl (rowsN ms))] [] (.p (.bool true), []) := by
  have dn : decide (((List.length (rowsN ns) : Nat) : Int) > 50) = false → ns.length ≤ 50 := fun h => by have := of_decide_eq_false h; rw [rowsN_len] at this; omega
  have dm : decide (((List.length (rowsN ms) : Nat) : Int) > 50) = false → ms.length ≤ 50 := fun h => by have := of_decide_eq_false h; rw [rowsN_len] at this; omega
  have rS : Runs lp 13 [.p (.sl (rowsN ns)), .p (.sl (rowsN ns))] [] (.p (.bool (ns == ns)), []) := rpSame hn
  have rM : ns.length ≤ 50 → ms.length ≤ 50 → Runs lp 11 [.p (.sl (rowsN (ns ++ ms)))] [] (.p (.bool (pathB (ns ++ ms))), []) := fun a b => rpMay (by simp; omega) (fun x hx => by rcases List.mem_append.1 hx with h | h; exact sn x h; exact sm x h)
  have r0 : Runs lp 11 [.p (.sl [])] [] (.p (.bool (pathB [])), []) := rpMay (ns := []) (by simp) (by simp)
  have rm := rpMay hm sm
  have s0 : ns.length ≤ 50 → ms.length ≤ 50 → Runs lp 13 [.p (.sl (rowsN (ns ++ ms))), .p (.sl [])] [] (.p (.bool ((ns ++ ms) == [])), []) := fun a b => rpSame (ns := ns ++ ms) (ms := []) (by simp; omega)
  have s1 : ns.length ≤ 50 → ms.length ≤ 50 → Runs lp 13 [.p (.sl (rowsN (ns ++ ms))), .p (.sl (rowsN ms))] [] (.p (.bool ((ns ++ ms) == ms)), []) := fun a b => rpSame (by simp; omega)
  have s2 : ns.length ≤ 50 → ms.length ≤ 50 → Runs lp 13 [.p (.sl (rowsN (ns ++ ms))), .p (.sl (rowsN (ns ++ ms)))] [] (.p (.bool ((ns ++ ms) == (ns ++ ms))), []) := fun a b => rpSame (by simp; omega)
  have pb : Runs lp 19 [.p (.sl (rowsN ns)), .p (.sl (rowsN (ns ++ ms)))] [] (.p (.bool (List.isPrefixOf ns (ns ++ ms))), []) := pBegins hn
  have jT : ns.length ≤ 50 → ms.length ≤ 50 → pathB (ns ++ ms) = true → _ := fun a b h => by have := pJoin a b; rw [if_pos h] at this; exact this
  have jF : ns.length ≤ 50 → ms.length ≤ 50 → pathB (ns ++ ms) = false → _ := fun a b h => by have := pJoin a b; rw [if_neg (by rw [h]; decide)] at this; exact this
  refine ifE (lawJ (fun _ => lives) (fun hn_ _ => lives) (fun hn_ hm_ => by have := dn hn_; rw [rowsN_len, wrap_i64 (by omega) (by omega)]; omega) (fun hn_ hm_ => by have := dn hn_; simp; omega) (fun hn_ hm_ hp_ => jT (dn hn_) (dm hm_) hp_) (fun hn_ hm_ hp_ _ _ => lives) (fun hn_ hm_ hp_ _ _ => rS) (fun hn_ hm_ hp_ _ _ => r0) (fun hn_ hm_ hp_ _ _ _ => s0 (dn hn_) (dm hm_)) (fun hn_ hm_ hp_ _ _ _ _ => pb) (fun hn_ hm_ hp_ _ _ => by have := dn hn_; have := dm hm_; omega) (fun hn_ hm_ hp_ _ _ => lives) (fun hn_ hm_ hp_ _ _ => rS) (fun hn_ hm_ hp_ _ _ => rm) (fun hn_ hm_ hp_ _ _ _ => s1 (dn hn_) (dm hm_)) (fun hn_ hm_ hp_ _ _ _ _ => pb) (fun hn_ hm_ hp_ _ => by have := dn hn_; have := dm hm_; omega) (fun hn_ hm_ hp_ _ => by have := dn hn_; have := dm hm_; omega) (fun hn_ hm_ hp_ _ => lives) (fun hn_ hm_ hp_ _ => rS) (fun hn_ hm_ hp_ _ => rM (dn hn_) (dm hm_)) (fun hn_ hm_ hp_ _ => s2 (dn hn_) (dm hm_)) (fun hn_ hm_ hp_ _ => pb) (fun hn_ hm_ hp_ => jF (dn hn_) (dm hm_) hp_) (fun hn_ hm_ hp_ _ _ => lives) (fun hn_ hm_ hp_ _ _ => rS) (fun hn_ hm_ hp_ _ _ => r0) (fun hn_ hm_ hp_ _ _ => by have := dn hn_; have := dm hm_; omega) (fun hn_ hm_ hp_ _ _ => lives) (fun hn_ hm_ hp_ _ _ => rS) (fun hn_ hm_ hp_ _ _ => rm) (fun hn_ hm_ hp_ _ => by have := dn hn_; have := dm hm_; omega) (fun hn_ hm_ hp_ _ => by have := dn hn_; have := dm hm_; omega) (fun hn_ hm_ hp_ _ => lives) (fun hn_ hm_ hp_ _ => rS) (fun hn_ hm_ hp_ _ => rM (dn hn_) (dm hm_))) ?_
  rw [prefix_app]
  split
  · rfl
  · split
    · rfl
    · cases hp : pathB (ns ++ ms) with
      | true =>
        by_cases h1 : ns = []
        · subst h1
          by_cases h2 : ms = []
          · subst h2; simp at hp ⊢; simp [hp]
          · simp at hp ⊢; simp [hp, h2]
        · simp [h1]
      | false =>
        by_cases h1 : ns = []
        · subst h1
          by_cases h2 : ms = []
          · subst h2; simp at hp ⊢; simp [hp]
          · simp at hp ⊢; simp [hp, h2]
        · simp [h1]
end Go.Proofs.YtjafokipeodmfaaDoor

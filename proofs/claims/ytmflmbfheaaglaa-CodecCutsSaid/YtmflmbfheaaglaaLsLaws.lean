import Derived.Test.YtmflmbfheaaglaaLsLawsW
import Derived.Test.YtmflmbfheaaglaaLsCod6
set_option linter.unusedVariables false
set_option maxRecDepth 100000
set_option linter.unusedSimpArgs false
namespace Go.Proofs.Ytmflmbfheaaglaa
open Go Go.LS
theorem encC_ne (v : Val) : encC v ≠ [] := by
  obtain ⟨k, n, s, is, ns⟩ := v
  have := (@encC_parts k n s is ns).1
  intro h; rw [h] at this; simp at this
theorem vDecN {L : List UInt8} (hL : L.length ≤ 140737488355328) (h : dec L = none) : Runs lp 12 [.p (.sl (bs L))] [] (.tup [.agg [.p (.int .i64 0), .p (.int .i64 0), .p (.str []), .tight [], .tight []], .p (.int .i64 10)], []) := by
  have := vDec hL; rw [h] at this; exact this
theorem codecC (v : Val) (hok : okV v) (z : Int) : Runs lp 6 [encV v, .p (.int .i64 z)] [] (.p (.bool true), []) := by
  obtain ⟨k, n, s, is, ns⟩ := v
  have hdp : largeV (.mk k n s is ns) = false → depthV (.mk k n s is ns) ≤ 1000000 := fun h => by have := small_depth hok h; omega
  have hs : largeV (.mk k n s is ns) = false → sizeW (.mk k n s is ns) = sizeV (.mk k n s is ns) := fun h => sizeW_eq hok h
  have hl : largeV (.mk k n s is ns) = false → ((checkV (.mk k n s is ns)) == 0) = true → (encC (.mk k n s is ns)).length ≤ 4096 := fun h h2 => code_small (eq_of_beq h2) (hs h)
  refine ifE (lawC (rLarge _ hok) (fun h => rCheck _ hok (hdp h)) (fun h h2 => rEnc _ hok (check_ok (eq_of_beq h2)).1 (by have := hl h h2; omega)) (fun _ _ h _ => by have := of_decide_eq_false h; omega)
    (fun _ _ _ h => by have := of_decide_eq_false h; rw [bs_len] at this; omega)
    (fun h h2 h3 h4 => vDecN (by have := hl h h2; rw [List.length_take]; omega) (dec_less hok (eq_of_beq h2) (hs h) (by have := of_decide_eq_false h4; rw [bs_len] at this; have := of_decide_eq_false h3; omega)))
    (fun h h2 _ _ => by have := hl h h2; simp only [List.length_nil]; omega) (fun _ _ _ _ => encC_ne _) (fun h h2 _ _ => by have := hl h h2; simp only [List.length_append, List.length_nil, List.length_singleton]; omega)
    (fun h h2 _ _ => vDecN (L := encC (.mk k n s is ns) ++ [UInt8.ofNat (Int.toNat (IntKind.wrap .u8 z))]) (by have := hl h h2; simp only [List.length_append, List.length_singleton]; omega) (dec_more hok (eq_of_beq h2) (hs h) (by simp)))) ?_
  simp
end Go.Proofs.Ytmflmbfheaaglaa

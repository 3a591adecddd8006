import Derived.Test.YtmflmbfheaaglaaLsLawsW
import Derived.Test.YtmflmbfheaaglaaLsCod6
set_option linter.unusedVariables false
set_option maxRecDepth 100000
set_option linter.unusedSimpArgs false
namespace Go.Proofs.Ytmflmbfheaaglaa
open Go Go.LS
theorem vEncY {v : Val} (hok : okV v) (hd : depthV v ≤ 1000000) (hs : checkV v = 0 → sizeW v = sizeV v) (h : ((checkV v) == 0) = true) : Runs lp 9 [encV v] [] (.tup [.sl (bs (encC v)) 0 (encC v).length, .p (.int .i64 0)], [.spare 1 (encC v).length]) := by
  have := vEnc hok hd hs
  rw [if_pos h] at this; exact this
theorem vEncN {v : Val} (hok : okV v) (hd : depthV v ≤ 1000000) (hs : checkV v = 0 → sizeW v = sizeV v) (h : ((checkV v) == 0) = false) : Runs lp 9 [encV v] [] (.tup [.tight [], .p (.int .i64 (checkV v))], []) := by
  have := vEnc hok hd hs
  rw [if_neg (by rw [h]; decide)] at this; exact this
theorem vDecY {L : List UInt8} {v : Val} (hL : L.length ≤ 140737488355328) (h : dec L = some v) : Runs lp 12 [.p (.sl (bs L))] [] (.tup [encV v, .p (.int .i64 0)], []) := by
  have := vDec hL; rw [h] at this; exact this
theorem vPu {v : Val} (hok : okV v) (hd : depthV v ≤ 1000000) (hs : checkV v = 0 → sizeW v = sizeV v) {L : List UInt8} (hl : L.length ≤ 140737488355328) : Runs lp 10 [.p (.sl (bs L)), encV v] [] (if ((checkV v) == 0) = true then (.p (.sl (bs (L ++ encC v))), []) else (.p (.sl (bs L)), [])) := by
  obtain ⟨k, n, s, is, ns⟩ := v
  by_cases hL : L = []
  · subst hL
    exact vPuN vClN (vCheck _ hok hd) (fun h => vPutN _ hok (check_ok (eq_of_beq h)).1 (by have := code_small (eq_of_beq h) (hs (eq_of_beq h)); omega))
  · exact vPuA hL (vClB hL (by simp only [List.length_nil]; omega)) (vCheck _ hok hd) (fun h => vPut _ hok (check_ok (eq_of_beq h)).1 L (by have := code_small (eq_of_beq h) (hs (eq_of_beq h)); omega))
theorem len9 {L : List UInt8} (h : L.length ≤ 140737488355328) : 0 < IntKind.wrap .i64 (((List.length (bs L) : Nat) : Int) + 9) ∧ IntKind.wrap .i64 (((List.length (bs L) : Nat) : Int) + 9) * (1 : Int) ≤ 281474976710656 ∧ IntKind.wrap .i64 (((List.length (bs L) : Nat) : Int) + 9) ≤ 9223372036854775807 := by
  rw [bs_len, wrap_i64 (by omega) (by omega)]; omega
theorem vPuY {v : Val} (hok : okV v) (hd : depthV v ≤ 1000000) (hs : checkV v = 0 → sizeW v = sizeV v) {L : List UInt8} (hl : L.length ≤ 140737488355328) (h : ((checkV v) == 0) = true) : Runs lp 10 [.p (.sl (bs L)), encV v] [] (.p (.sl (bs (L ++ encC v))), []) := by
  have := vPu hok hd hs hl; rw [if_pos h] at this; exact this
theorem vPuYN {v : Val} (hok : okV v) (hd : depthV v ≤ 1000000) (hs : checkV v = 0 → sizeW v = sizeV v) {L : List UInt8} (hl : L.length ≤ 140737488355328) (h : ((checkV v) == 0) = false) : Runs lp 10 [.p (.sl (bs L)), encV v] [] (.p (.sl (bs L)), []) := by
  have := vPu hok hd hs hl; rw [if_neg (by rw [h]; decide)] at this; exact this
theorem codecE (v : Val) (hok : okV v) (L : List UInt8) (hL : L.length ≤ 140737488351232) : Runs lp 3 [encV v, .p (.sl (bs L))] [] (.p (.bool true), []) := by
  obtain ⟨k, n, s, is, ns⟩ := v
  have hdp : largeV (.mk k n s is ns) = false → depthV (.mk k n s is ns) ≤ 1000000 := fun h => by have := small_depth hok h; omega
  have hs : largeV (.mk k n s is ns) = false → sizeW (.mk k n s is ns) = sizeV (.mk k n s is ns) := fun h => sizeW_eq hok h
  have hl : largeV (.mk k n s is ns) = false → ((checkV (.mk k n s is ns)) == 0) = true → (encC (.mk k n s is ns)).length ≤ 4096 := fun h h2 => code_small (eq_of_beq h2) (hs h)
  have hlen : largeV (.mk k n s is ns) = false → checkV (.mk k n s is ns) = 0 → (((encC (.mk k n s is ns)).length : Nat) : Int) = sizeW (.mk k n s is ns) := fun h h2 => by
    rw [hs h]; exact encC_len _ (check_ok h2).1
  refine ifE (lawE (L := L) (rLarge _ hok) (fun h h2 => vEncY hok (hdp h) (fun _ => hs h) h2) (fun _ _ => len9 (by omega)) (fun _ _ => by simp only [List.length_nil]; omega) (fun h h2 => vPuY (L := L) hok (hdp h) (fun _ => hs h) (by omega) h2) (fun h _ _ => rCheck _ hok (hdp h))
    (fun h h2 _ => vDecY (by have := hl h h2; omega) (dec_enc hok (eq_of_beq h2) (hs h))) (fun h h2 _ => rEnc _ hok (check_ok (eq_of_beq h2)).1 (by have := hl h h2; omega)) (fun h h2 _ => rSize _ hok (check_ok (eq_of_beq h2)).1)
    (fun h h2 _ _ => by have := hl h h2; omega) (fun _ _ _ _ _ => rSame _ hok _ hok) (fun h h2 => vEncN hok (hdp h) (fun _ => hs h) h2) (fun _ _ => len9 (by omega)) (fun _ _ => by simp only [List.length_nil]; omega) (fun h h2 => vPuYN (L := L) hok (hdp h) (fun _ => hs h) (by omega) h2) (fun h _ _ => rCheck _ hok (hdp h))) ?_
  rw [sameV_refl, bs_len]
  cases hq : largeV (.mk k n s is ns) with
  | true => simp
  | false =>
    by_cases hc : checkV (.mk k n s is ns) = 0
    · simp [hc, hlen hq hc]
    · simp [hc]
end Go.Proofs.Ytmflmbfheaaglaa

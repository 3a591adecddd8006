import Derived.Test.YthmjaeflpgcmdaaLsVotW
import Derived.Test.YthmjaeflpgcmdaaLsG7
import Derived.Test.YthmjaeflpgcmdaaLsG6
import Derived.KernelRfl
set_option linter.unusedVariables false
set_option linter.unusedSimpArgs false
set_option maxRecDepth 100000
namespace Go.Proofs.Ythmjaeflpgcmdaa
open Go Go.LS
theorem repR {E : List Ak} {sp tn : Int} {off : Bool} {s X : List UInt8} (hl : s.length ≤ 1000) (hE : OKE E) (hs : sp ≤ 9223372036854775807) (ht : 0 ≤ tn) (hX : X.length ≤ 10000000000) :
  Runs lq 29 [.ptr 0 0 0, .p (.str s), .p (.sl (bs X))] (dS E sp tn off) (.p (.int .i64 (Df E sp tn off (s ++ [46, 110, 101, 119]) s X).1), dS (Df E sp tn off (s ++ [46, 110, 101, 119]) s X).2.1 (Df E sp tn off (s ++ [46, 110, 101, 119]) s X).2.2.1 tn (Df E sp tn off (s ++ [46, 110, 101, 119]) s X).2.2.2) := by
 have ka := Fs (tn := tn) (off := off) (s := (s ++ [46, 110, 101, 119])) (X := X) hE hs
 have kb := Gd (tn := tn) (off := (A0 E sp tn off (s ++ [46, 110, 101, 119]) X).2.2.2) (s := (s ++ [46, 110, 101, 119])) ka.oke ka.s1
 have hl4 : List.length (α := UInt8) s + List.length (α := UInt8) ([46, 110, 101, 119] : List UInt8) ≤ 9223372036854775807 := by simp only [List.length_cons, List.length_nil]; omega
 have A := vRep1 hl4 (appR (off := off) (s := (s ++ [46, 110, 101, 119])) hE hs ht hX)
 have B := vRep2 hl4 (syR (E := (A0 E sp tn off (s ++ [46, 110, 101, 119]) X).2.1) (tn := tn) (off := (A0 E sp tn off (s ++ [46, 110, 101, 119]) X).2.2.2) (s := (s ++ [46, 110, 101, 119])) ka.s1)
 have D := vRep3 hl4 (rnR (E := (Bo (A0 E sp tn off (s ++ [46, 110, 101, 119]) X).2.1 (A0 E sp tn off (s ++ [46, 110, 101, 119]) X).2.2.1 tn (A0 E sp tn off (s ++ [46, 110, 101, 119]) X).2.2.2 (s ++ [46, 110, 101, 119])).2.1) (tn := tn) (off := (Bo (A0 E sp tn off (s ++ [46, 110, 101, 119]) X).2.1 (A0 E sp tn off (s ++ [46, 110, 101, 119]) X).2.2.1 tn (A0 E sp tn off (s ++ [46, 110, 101, 119]) X).2.2.2 (s ++ [46, 110, 101, 119])).2.2.2) (s := (s ++ [46, 110, 101, 119])) (zz := s) kb.s1)
 have h := Y5 A (fun _ => B) (fun _ _ => D)
 simp only [Df]
 by_cases h1 : ((A0 E sp tn off (s ++ [46, 110, 101, 119]) X).1 == 0) = true
 ·rw [if_pos h1] at h ⊢
  by_cases h2 : ((Bo (A0 E sp tn off (s ++ [46, 110, 101, 119]) X).2.1 (A0 E sp tn off (s ++ [46, 110, 101, 119]) X).2.2.1 tn (A0 E sp tn off (s ++ [46, 110, 101, 119]) X).2.2.2 (s ++ [46, 110, 101, 119])).1 == 0) = true
  ·rw [if_pos h2] at h ⊢
   by_cases h3 : ((Cz (Bo (A0 E sp tn off (s ++ [46, 110, 101, 119]) X).2.1 (A0 E sp tn off (s ++ [46, 110, 101, 119]) X).2.2.1 tn (A0 E sp tn off (s ++ [46, 110, 101, 119]) X).2.2.2 (s ++ [46, 110, 101, 119])).2.1 (Bo (A0 E sp tn off (s ++ [46, 110, 101, 119]) X).2.1 (A0 E sp tn off (s ++ [46, 110, 101, 119]) X).2.2.1 tn (A0 E sp tn off (s ++ [46, 110, 101, 119]) X).2.2.2 (s ++ [46, 110, 101, 119])).2.2.1 tn (Bo (A0 E sp tn off (s ++ [46, 110, 101, 119]) X).2.1 (A0 E sp tn off (s ++ [46, 110, 101, 119]) X).2.2.1 tn (A0 E sp tn off (s ++ [46, 110, 101, 119]) X).2.2.2 (s ++ [46, 110, 101, 119])).2.2.2 (s ++ [46, 110, 101, 119]) s).1 == 0) = true
   ·rw [if_pos h3] at h
    rw [beq_iff_eq.1 h3]
    exact h
   ·rw [if_neg h3] at h
    exact h
  ·rw [if_neg h2] at h ⊢
   exact h
 ·rw [if_neg h1] at h ⊢
  exact h
theorem clrR {E : List Ak} {sp tn : Int} {off : Bool} {s : List UInt8} (hs : sp ≤ 9223372036854775807) :
  Runs lq 27 [.ptr 0 0 0, .p (.str s)] (dS E sp tn off) (.p (.int .i64 (Iv E sp tn off s).1), dS (Iv E sp tn off s).2.1 (Iv E sp tn off s).2.2.1 tn (Iv E sp tn off s).2.2.2) := by
 have h := vClear (rmR (E := E) (tn := tn) (off := off) (s := s) hs)
 simp only [Iv]
 by_cases h1 : ((Ga E sp tn off s).1 == 4) = true
 ·rw [if_pos h1] at h ⊢; exact h
 ·rw [if_neg h1] at h ⊢; exact h
end Go.Proofs.Ythmjaeflpgcmdaa

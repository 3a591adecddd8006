import Derived.Test.YtpkmddkodchanaaLsLaw5W
import Derived.Test.YtpkmddkodchanaaLsClo
set_option linter.unusedVariables false
set_option linter.unusedSimpArgs false
set_option maxRecDepth 100000
namespace Go.Proofs.Ytpkmddkodchanaa
open Go Go.LS
abbrev fx (v : Val) : LV := .agg [.p (.int .i64 (kV v)), .p (.int .i64 (nV v)), .p (.str (sV v)), .p (.sl (Ac (iV v))), .p (.sl (Ab (mV v)))]
theorem sameX (a b : Val) (ha : okV a) (hb : okV b) : Runs lp 15 [fx a, fx b] [] (.p (.bool (Do a b)), []) := by
 have := rSame a ha b hb
 rw [He, He] at this; exact this
theorem dropX {B : Nat} (hB : B ≤ 1000000000) {v : Val} (hv : okW B v) {ps : List (List UInt8)} (hp : ps.length ≤ 140737488355328) :
  Runs lp 22 [fx v, .p (.sl (Ab ps))] [] (.tup [fx (Ag (An v ps (Af ps)) ps v).1, .p (.int .i64 (Ag (An v ps (Af ps)) ps v).2)], []) := by
 have := tDropF hB hv hp
 rw [He, He] at this; exact this
theorem dropRX {B : Nat} (hB : B ≤ 1000000000) {v : Val} (hv : okW B v) (hm : Bc v = true) {ps : List (List UInt8)} (hne : ps ≠ []) : Runs lp 24 [fx v, .p (.sl (Ab ps))] [] (fx (atV At ps v), []) := by
 have := Ue hB ps v hne hv hm
 rw [He, He] at this; exact this
theorem okZ {B : Nat} : okW B Qu := Jr ⟨by omega, by omega, by simp, by simp, by simp, by simp, by simp⟩
theorem M6 {B : Nat} {e : Int} {v : Val} {ps : List (List UInt8)} (hv : okW B v) : okW B (Ag e ps v).1 := by
 unfold Ag
 split
 ·exact Ny (f := At) (fun v i h => Gt h) ps v hv
 ·exact okZ
theorem largeL {v : Val} (hok : okV v) {ps : List (List UInt8)} : Runs lp 8 [B9 v, .p (.sl (Ab ps))] [] (.p (.bool (Ev v || decide (((List.length (Ab ps) : Nat) : Int) > 50))), []) := by
 have hl := rLarge v hok
 obtain ⟨k, n, s, is, ns⟩ := v
 refine ifE (large0 hl) ?_
 cases Ev (.mk k n s is ns) <;> rfl
theorem doc7 {v : Val} (h : Fw v = true) : kV v = 7 := by
 obtain ⟨k, n, s, is, ns⟩ := v
 simp only [Fw, Oy, Bool.and_eq_true, beq_iff_eq] at h
 exact h.1
theorem docI {v : Val} (h1 : kV v = 7) (h2 : Bc v = true) : Fw v = true := by
 obtain ⟨k, n, s, is, ns⟩ := v
 simp only [Fw, Oy, h2, Bool.and_true, beq_iff_eq]
 exact h1
theorem chk0 {v : Val} {ps : List (List UInt8)} (h : Fw v = true) (hp : Af ps = true) : An v ps (Af ps) = 0 := by unfold An; rw [if_pos h, if_pos hp]
theorem R3 {v : Val} (hok : okV v) {ps : List (List UInt8)} (hp : ps.length ≤ 140737488355328) (sp : ∀ q ∈ ps, q.length ≤ 140737488351232) : Runs lp 6 [B9 v, .p (.sl (Ab ps))] [] (.p (.bool true), []) := by
 have hlg := largeL hok (ps := ps)
 have sp' : ∀ q ∈ ps, q.length ≤ 140737488355328 := fun q hq => by have := sp q hq; omega
 have hwr := wrongL hok hp sp'
 have hW : (Ev v || decide (((List.length (Ab ps) : Nat) : Int) > 50)) = false → okW 3000 v := fun h => okW_of hok (by cases hl : Ev v <;> simp_all)
 generalize (Ev v || decide (((List.length (Ab ps) : Nat) : Int) > 50)) = lg at *
 obtain ⟨k, n, s, is, ns⟩ := v
 have oD : lg = false → okW 3000 (Ag (An (Val.mk k n s is ns) ps (Af ps)) ps (Val.mk k n s is ns)).1 := fun a => M6 (hW a)
 have oA : lg = false → okW 3000 (atV At ps (Val.mk k n s is ns)) := fun a => Ny (f := At) (fun v i h => Gt h) ps _ (hW a)
 have up : ∀ {B : Nat} {v : Val}, B ≤ 1000000 → okW B v → okV v := fun hB h => I2 (by omega) _ h
 refine ifE (Nz (hlg) (fun a => lives) (fun a => dropX (B := 3000) (by omega) (hW a) hp) (fun a => lives) (fun a => hwr) (fun a h0 => dropX (B := 3000) (by omega) (oD a) hp) (fun a h0 _ => dropRX (B := 3000) (by omega) (hW a) (I0 (Kr h0).1) (Q1 (Kr h0).2)) (fun a h0 _ => sameX _ _ (up (by omega) (oD a)) (up (by omega) (oA a))) (fun a h0 _ _ _ => sameX _ _ (up (by omega) (M6 (oD a))) (up (by omega) (oD a)))) ?_
 clear hlg hwr hW oD oA up
 by_cases hl : lg = true
 ·simp [hl]
 by_cases h0 : ((An (Val.mk k n s is ns) ps (Af ps)) == 0) = true
 ·obtain ⟨hd, hpb⟩ := Kr h0
  have S : Ag (An (Val.mk k n s is ns) ps (Af ps)) ps (Val.mk k n s is ns) = (atV At ps (Val.mk k n s is ns), 0) := by unfold Ag; rw [if_pos h0]
  have d2 : Fw (atV At ps (Val.mk k n s is ns)) = true := docI (by rw [Vm Gv (I0 hd)]; exact doc7 hd) (Ub Gv ps _ (I0 hd))
  have S2 : Ag (An (atV At ps (Val.mk k n s is ns)) ps (Af ps)) ps (atV At ps (Val.mk k n s is ns)) = (atV At ps (Val.mk k n s is ns), 0) := by unfold Ag; rw [chk0 d2 hpb, if_pos (by rfl), O5 Gv ps _ (I0 hd)]
  simp [hl, h0, S, S2, P3]
 ·have h0' : ((An (Val.mk k n s is ns) ps (Af ps)) == 0) = false := by simpa using h0
  have S : Ag (An (Val.mk k n s is ns) ps (Af ps)) ps (Val.mk k n s is ns) = (Qu, (An (Val.mk k n s is ns) ps (Af ps))) := by unfold Ag; rw [if_neg h0]
  simp only [S]
  simp [hl, h0', Qu, kV]
end Go.Proofs.Ytpkmddkodchanaa

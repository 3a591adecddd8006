import Derived.Test.YthmjaeflpgcmdaaLsFr2W
set_option linter.unusedVariables false
set_option linter.unusedSimpArgs false
set_option maxRecDepth 100000
namespace Go.Proofs.Ythmjaeflpgcmdaa
open Go Go.LS
theorem vPut {h b : List UInt8} (hb : b.length ≤ 65536) (hh : h.length ≤ 199999999000000) : Runs lp 22 [.p (.sl (bs h)), .p (.sl (bs b))] [] (.tup [.p (.sl (bs (h ++ frame b))), .p (.int .i64 0)], []) := by
 have l1 := J1 b.length (by omega)
 have l2 := Rv hb
 have := @put_n h b (by rw [A9]; simp; omega)
 rw [lenBs] at this
 have e : h ++ (Av b.length ++ b) ++ Cy (Cr (Av b.length ++ b)) = h ++ frame b := by simp [frame, Ic]
 rw [e] at this
 have l3 : (Av b.length ++ b).length ≤ 65546 := l2
 exact this ⟨by rw [A9]; omega, by rw [A9]; omega⟩ (by omega) (by omega) hh (by omega) (by rw [Hd]; omega)
def Bw (b : List UInt8) : Nat := B9 b + Cn b
def Ca (b : List UInt8) : List UInt8 := (b.take (Bw b)).drop (B9 b)
def nok (b : List UInt8) : Bool := !(Af (b, false) 65536).2.2 && decide (Bw b + 4 ≤ b.length) && decide (Cy (Cr (b.take (Bw b))) = (b.take (Bw b + 4)).drop (Bw b))
theorem nx_of {b : List UInt8} (h : (Af (b, false) 65536).2.2 = false) : Af (b, false) 65536 = ((Cn b : Int), b.drop (B9 b), false) ∧ Cn b ≤ 65536 := by
 unfold Af at h ⊢
 split at h
 ·cases h
 ·rename_i hc
  rw [if_neg hc]
  refine ⟨rfl, ?_⟩
  simp only [not_or] at hc
  have := hc.2.2.2
  omega
section
variable {b : List UInt8}
theorem Ry (hl : b.length ≤ 2000000) (h : nok b = false) : Runs lp 37 [.p (.sl (bs b))] [] (.tup [.p (.sl []), .p (.int .i64 0)], []) := by
 by_cases hbad : (Af (b, false) 65536).2.2 = true
 ·exact Zu hbad
 ·replace hbad : (Af (b, false) 65536).2.2 = false := by simpa using hbad
  obtain ⟨hx, hg⟩ := nx_of hbad
  have hgl := Pz b
  have e0 : IntKind.wrap .i64 (((List.length (bs b) : Nat) : Int) - Au (Af (b, false) 65536).2) = ((B9 b : Nat) : Int) := by
   rw [hx]; simp only [Au, A9, List.length_drop, Bool.false_eq_true, if_false]; rw [A1 (by omega) (by omega)]; omega
  have e1 : IntKind.wrap .i64 (((B9 b : Nat) : Int) + (Af (b, false) 65536).1) = ((Bw b : Nat) : Int) := by
   rw [hx]; simp only [Bw]; rw [A1 (by omega) (by omega)]; omega
  have e2 : IntKind.wrap .i64 (((Bw b : Nat) : Int) + 4) = ((Bw b + 4 : Nat) : Int) := by
   rw [A1 (by simp only [Bw]; omega) (by simp only [Bw]; omega)]; rfl
  have e3 : IntKind.wrap .i64 (Au (Af (b, false) 65536).2 - 4) = (b.length : Int) - B9 b - 4 := by
   rw [hx]; simp only [Au, A9, List.length_drop, Bool.false_eq_true, if_false]; rw [A1 (by omega) (by omega)]; omega
  by_cases hfit : Bw b + 4 ≤ b.length
  ·have hne : ¬ (Cy (Cr (b.take (Bw b))) = (b.take (Bw b + 4)).drop (Bw b)) := by
    intro he
    simp [nok, hbad, hfit, he] at h
   have := @Vk b
   rw [e0, e1, e2, e3] at this
   simp only [Int.toNat_natCast] at this
   exact this hbad (by rw [hx]; simp only [Bw] at hfit; simp; omega) (by omega) (by omega) (by omega) (by omega) (by rw [List.length_take]; omega) (by rw [Hd]; omega) (by simpa using hne)
  ·have := @Xz b
   rw [e3] at this
   exact this hbad (by rw [hx]; simp only [Bw] at hfit; simp; omega)
theorem Um (hl : b.length ≤ 2000000) (h : nok b = true) : Runs lp 37 [.p (.sl (bs b))] [] (.tup [.p (.sl (bs (Ca b))), .p (.int .i64 ((Bw b + 4 : Nat) : Int))], []) := by
 simp only [nok, Bool.and_eq_true, Bool.not_eq_true', decide_eq_true_eq] at h
 obtain ⟨⟨hbad, hfit⟩, heq⟩ := h
 ·
  obtain ⟨hx, hg⟩ := nx_of hbad
  have hgl := Pz b
  have e0 : IntKind.wrap .i64 (((List.length (bs b) : Nat) : Int) - Au (Af (b, false) 65536).2) = ((B9 b : Nat) : Int) := by
   rw [hx]; simp only [Au, A9, List.length_drop, Bool.false_eq_true, if_false]; rw [A1 (by omega) (by omega)]; omega
  have e1 : IntKind.wrap .i64 (((B9 b : Nat) : Int) + (Af (b, false) 65536).1) = ((Bw b : Nat) : Int) := by
   rw [hx]; simp only [Bw]; rw [A1 (by omega) (by omega)]; omega
  have e2 : IntKind.wrap .i64 (((Bw b : Nat) : Int) + 4) = ((Bw b + 4 : Nat) : Int) := by
   rw [A1 (by simp only [Bw]; omega) (by simp only [Bw]; omega)]; rfl
  have e3 : IntKind.wrap .i64 (Au (Af (b, false) 65536).2 - 4) = (b.length : Int) - B9 b - 4 := by
   rw [hx]; simp only [Au, A9, List.length_drop, Bool.false_eq_true, if_false]; rw [A1 (by omega) (by omega)]; omega
  have := @Vj b
  rw [e0, e1, e2, e3] at this
  simp only [Int.toNat_natCast] at this
  exact this hbad (by rw [hx]; simp only [Bw] at hfit; simp; omega) (by omega) (by omega) (by omega) (by omega) (by rw [List.length_take]; omega) (by rw [Hd]; omega) (by simp [heq]) (by omega) (by simp only [Bw]; omega) (by simp only [List.length_drop, List.length_take]; omega)
end
end Go.Proofs.Ythmjaeflpgcmdaa

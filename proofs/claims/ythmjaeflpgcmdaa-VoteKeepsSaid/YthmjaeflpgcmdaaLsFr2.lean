import Derived.Test.YthmjaeflpgcmdaaLsFr2W
set_option linter.unusedVariables false
set_option linter.unusedSimpArgs false
set_option maxRecDepth 100000
namespace Go.Proofs.Ythmjaeflpgcmdaa
open Go Go.LS
theorem vPut {h b : List UInt8} (hb : b.length ≤ 65536) (hh : h.length ≤ 199999999000000) : Runs lp 22 [.p (.sl (bs h)), .p (.sl (bs b))] [] (.tup [.p (.sl (bs (h ++ frame b))), .p (.int .i64 0)], []) := by
 have l1 := Fk b.length (by omega)
 have l2 := Sk hb
 have := @put_n h b (by rw [A6]; simp; omega)
 rw [lenBs] at this
 have e : h ++ (Af b.length ++ b) ++ C1 (Ct (Af b.length ++ b)) = h ++ frame b := by simp [frame, Ip]
 rw [e] at this
 have l3 : (Af b.length ++ b).length ≤ 65546 := l2
 exact this ⟨by rw [A6]; omega, by rw [A6]; omega⟩ (by omega) (by omega) hh (by omega) (by rw [Hl]; omega)
def Br (b : List UInt8) : Nat := By b + B6 b
def Cb (b : List UInt8) : List UInt8 := (b.take (Br b)).drop (By b)
def nok (b : List UInt8) : Bool := !(Ab (b, false) 65536).2.2 && decide (Br b + 4 ≤ b.length) && decide (C1 (Ct (b.take (Br b))) = (b.take (Br b + 4)).drop (Br b))
theorem nx_of {b : List UInt8} (h : (Ab (b, false) 65536).2.2 = false) : Ab (b, false) 65536 = ((B6 b : Int), b.drop (By b), false) ∧ B6 b ≤ 65536 := by
 unfold Ab at h ⊢
 split at h
 ·cases h
 ·rename_i hc
  rw [if_neg hc]
  refine ⟨rfl, ?_⟩
  simp only [not_or] at hc
  have := hc.2.2.2
  omega
section
variable {b : List UInt8}
theorem Sl (hl : b.length ≤ 2000000) (h : nok b = false) : Runs lp 37 [.p (.sl (bs b))] [] (.tup [.p (.sl []), .p (.int .i64 0)], []) := by
 by_cases hbad : (Ab (b, false) 65536).2.2 = true
 ·exact vnext_y hbad
 ·replace hbad : (Ab (b, false) 65536).2.2 = false := by simpa using hbad
  obtain ⟨hx, hg⟩ := nx_of hbad
  have hgl := L7 b
  have e0 : IntKind.wrap .i64 (((List.length (bs b) : Nat) : Int) - At (Ab (b, false) 65536).2) = ((By b : Nat) : Int) := by
   rw [hx]; simp only [At, A6, List.length_drop, Bool.false_eq_true, if_false]; rw [Aw (by omega) (by omega)]; omega
  have e1 : IntKind.wrap .i64 (((By b : Nat) : Int) + (Ab (b, false) 65536).1) = ((Br b : Nat) : Int) := by
   rw [hx]; simp only [Br]; rw [Aw (by omega) (by omega)]; omega
  have e2 : IntKind.wrap .i64 (((Br b : Nat) : Int) + 4) = ((Br b + 4 : Nat) : Int) := by
   rw [Aw (by simp only [Br]; omega) (by simp only [Br]; omega)]; rfl
  have e3 : IntKind.wrap .i64 (At (Ab (b, false) 65536).2 - 4) = (b.length : Int) - By b - 4 := by
   rw [hx]; simp only [At, A6, List.length_drop, Bool.false_eq_true, if_false]; rw [Aw (by omega) (by omega)]; omega
  by_cases hfit : Br b + 4 ≤ b.length
  ·have hne : ¬ (C1 (Ct (b.take (Br b))) = (b.take (Br b + 4)).drop (Br b)) := by
    intro he
    simp [nok, hbad, hfit, he] at h
   have := @Wa b
   rw [e0, e1, e2, e3] at this
   simp only [Int.toNat_natCast] at this
   exact this hbad (by rw [hx]; simp only [Br] at hfit; simp; omega) (by omega) (by omega) (by omega) (by omega) (by rw [List.length_take]; omega) (by rw [Hl]; omega) (by simpa using hne)
  ·have := @Yx b
   rw [e3] at this
   exact this hbad (by rw [hx]; simp only [Br] at hfit; simp; omega)
theorem Va (hl : b.length ≤ 2000000) (h : nok b = true) : Runs lp 37 [.p (.sl (bs b))] [] (.tup [.p (.sl (bs (Cb b))), .p (.int .i64 ((Br b + 4 : Nat) : Int))], []) := by
 simp only [nok, Bool.and_eq_true, Bool.not_eq_true', decide_eq_true_eq] at h
 obtain ⟨⟨hbad, hfit⟩, heq⟩ := h
 ·
  obtain ⟨hx, hg⟩ := nx_of hbad
  have hgl := L7 b
  have e0 : IntKind.wrap .i64 (((List.length (bs b) : Nat) : Int) - At (Ab (b, false) 65536).2) = ((By b : Nat) : Int) := by
   rw [hx]; simp only [At, A6, List.length_drop, Bool.false_eq_true, if_false]; rw [Aw (by omega) (by omega)]; omega
  have e1 : IntKind.wrap .i64 (((By b : Nat) : Int) + (Ab (b, false) 65536).1) = ((Br b : Nat) : Int) := by
   rw [hx]; simp only [Br]; rw [Aw (by omega) (by omega)]; omega
  have e2 : IntKind.wrap .i64 (((Br b : Nat) : Int) + 4) = ((Br b + 4 : Nat) : Int) := by
   rw [Aw (by simp only [Br]; omega) (by simp only [Br]; omega)]; rfl
  have e3 : IntKind.wrap .i64 (At (Ab (b, false) 65536).2 - 4) = (b.length : Int) - By b - 4 := by
   rw [hx]; simp only [At, A6, List.length_drop, Bool.false_eq_true, if_false]; rw [Aw (by omega) (by omega)]; omega
  have := @V9 b
  rw [e0, e1, e2, e3] at this
  simp only [Int.toNat_natCast] at this
  exact this hbad (by rw [hx]; simp only [Br] at hfit; simp; omega) (by omega) (by omega) (by omega) (by omega) (by rw [List.length_take]; omega) (by rw [Hl]; omega) (by simp [heq]) (by omega) (by simp only [Br]; omega) (by simp only [List.length_drop, List.length_take]; omega)
end
end Go.Proofs.Ythmjaeflpgcmdaa

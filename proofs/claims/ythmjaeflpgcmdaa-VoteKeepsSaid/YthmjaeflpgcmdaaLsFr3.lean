import Derived.Test.YthmjaeflpgcmdaaLsFr3W
set_option linter.unusedVariables false
set_option linter.unusedSimpArgs false
set_option maxRecDepth 100000
namespace Go.Proofs.Ythmjaeflpgcmdaa
open Go Go.LS
theorem ef_len (A : List (List UInt8)) : (ef A).length = A.length := by simp [ef]
theorem L8 {b : List UInt8} (h : nok b = true) : Br b + 4 ≤ b.length := by
 simp only [nok, Bool.and_eq_true, decide_eq_true_eq] at h
 exact h.1.2
def Cp : Nat → List UInt8 → List (List UInt8) × Nat
 | 0, _ => ([], 0)
 | n + 1, b => if nok b = true then (Cb b :: (Cp n (b.drop (Br b + 4))).1, (Br b + 4) + (Cp n (b.drop (Br b + 4))).2) else ([], 0)
def Iq (b : List UInt8) : List (List UInt8) × Nat := Cp (b.length + 1) b
theorem scan_no {b : List UInt8} (h : nok b = false) : Iq b = ([], 0) := by rw [Iq, Cp, if_neg (by simp [h])]
theorem T7 {b : List UInt8} (hl : b.length ≤ 1100000) : ∀ (n a : Nat) (A : List (List UInt8)), b.length - a < n → a ≤ b.length → A.length ≤ a →
  LoopN lp 0 (Aj Kc 0) (tl 0 26 [(0, .p (.sl (bs b))), (4, .sl (ef A) 0 (ef A).length), (5, .p (.int .i64 (a : Int)))]) [.spare 1 (ef A).length] (.ret, tl 0 26 [(2, .sl (ef (A ++ (Cp n (b.drop a)).1)) 0 (ef (A ++ (Cp n (b.drop a)).1)).length), (3, .p (.int .i64 ((a + (Cp n (b.drop a)).2 : Nat) : Int)))], [.spare 1 (ef (A ++ (Cp n (b.drop a)).1)).length]) := by
 intro n
 induction n with
 | zero => intro a A h; omega
 | succ n ih =>
  intro a A h ha hA
  have hn : (Int.toNat (a : Int)) = a := by omega
  have hld : (b.drop a).length ≤ 2000000 := by rw [List.length_drop]; omega
  by_cases hk : nok (b.drop a) = true
  ·have hend := L8 hk
   rw [List.length_drop] at hend
   have hw : IntKind.wrap .i64 ((a : Int) + ((Br (List.drop (Int.toNat (a : Int)) b) + 4 : Nat) : Int)) = ((a + (Br (b.drop a) + 4) : Nat) : Int) := by
    rw [hn, Aw (by omega) (by omega)]; omega
   have hz : (((Br (List.drop (Int.toNat (a : Int)) b) + 4 : Nat) : Int) == 0) = false := by simp; omega
   have ihh := ih (a + (Br (b.drop a) + 4)) (A ++ [Cb (b.drop a)]) (by omega) (by omega) (by simp; omega)
   have e1 : Cp (n + 1) (b.drop a) = (Cb (b.drop a) :: (Cp n (b.drop (a + (Br (b.drop a) + 4)))).1, (Br (b.drop a) + 4) + (Cp n (b.drop (a + (Br (b.drop a) + 4)))).2) := by
    rw [Cp, if_pos hk, List.drop_drop]
   rw [e1]
   rw [List.append_assoc, List.singleton_append, Nat.add_assoc] at ihh
   have es : ef (A ++ [Cb (b.drop a)]) = ef A ++ [[PV.sl (bs (Cb (b.drop a)))]] := by simp [ef]
   rw [es] at ihh
   have hA2 : (ef A).length ≤ 2000000 := by rw [ef_len]; omega
   refine Yz (by omega) (by omega) (by rw [hn]; exact hld) (by rw [hn]; exact hk) hz hA2 ?_
   rw [hw, hn]
   exact ihh
  ·have hk' : nok (b.drop a) = false := by simpa using hk
   have e1 : Cp (n + 1) (b.drop a) = ([], 0) := by rw [Cp, if_neg hk]
   rw [e1, List.append_nil, Nat.add_zero]
   exact vscan_n (by omega) (by omega) (by rw [hn]; exact hld) (by rw [hn]; exact hk')
theorem Sm {b : List UInt8} (hl : b.length ≤ 1100000) (hk : nok b = true) :
  LoopN lp 0 (Aj Kc 0) (tl 0 26 [(0, .p (.sl (bs b))), (4, .tight []), (5, .p (.int .i64 0))]) [] (.ret, tl 0 26 [(2, .sl (ef (Iq b).1) 0 (ef (Iq b).1).length), (3, .p (.int .i64 ((Iq b).2 : Int)))], [.spare 1 (ef (Iq b).1).length]) := by
 have hend := L8 hk
 have hw : IntKind.wrap .i64 (((0 : Nat) : Int) + ((Br (List.drop (Int.toNat ((0 : Nat) : Int)) b) + 4 : Nat) : Int)) = ((Br b + 4 : Nat) : Int) := by
  show IntKind.wrap .i64 (((0 : Nat) : Int) + ((Br b + 4 : Nat) : Int)) = _
  rw [Aw (by omega) (by omega)]; omega
 have hz : (((Br (List.drop (Int.toNat ((0 : Nat) : Int)) b) + 4 : Nat) : Int) == 0) = false := by simp; omega
 have ihh := T7 hl b.length (Br b + 4) [Cb b] (by omega) hend (by simp)
 have e1 : Iq b = (Cb b :: (Cp b.length (b.drop (Br b + 4))).1, (Br b + 4) + (Cp b.length (b.drop (Br b + 4))).2) := by
  rw [Iq, Cp, if_pos hk]
 rw [e1]
 have es : ef [Cb b] = ([] : List (List PV)) ++ [[PV.sl (bs (Cb b))]] := by simp [ef]
 rw [es] at ihh
 refine Wb (a := 0) (by omega) (by omega) (by show b.length ≤ 2000000; omega) hk hz ?_
 rw [hw]
 exact ihh
theorem vScan {b : List UInt8} (hl : b.length ≤ 1100000) : Runs lp 18 [.p (.sl (bs b))] [] (.tup [.p (.sl (ef (Iq b).1)), .p (.int .i64 ((Iq b).2 : Int))], []) := by
 by_cases hk : nok b = true
 ·exact Wc (Sm hl hk)
 ·have hk' : nok b = false := by simpa using hk
  rw [scan_no hk']
  exact Wd (a := 0) (Yy (a := 0) (by omega) (by omega) (by show b.length ≤ 2000000; omega) hk')
end Go.Proofs.Ythmjaeflpgcmdaa

import Derived.Test.YthmjaeflpgcmdaaLsFr3W
set_option linter.unusedVariables false
set_option linter.unusedSimpArgs false
set_option maxRecDepth 100000
namespace Go.Proofs.Ythmjaeflpgcmdaa
open Go Go.LS
theorem ef_len (A : List (List UInt8)) : (ef A).length = A.length := by simp [ef]
theorem Lr {b : List UInt8} (h : nok b = true) : Bw b + 4 ≤ b.length := by
 simp only [nok, Bool.and_eq_true, decide_eq_true_eq] at h
 exact h.1.2
def Co : Nat → List UInt8 → List (List UInt8) × Nat
 | 0, _ => ([], 0)
 | n + 1, b => if nok b = true then (Ca b :: (Co n (b.drop (Bw b + 4))).1, (Bw b + 4) + (Co n (b.drop (Bw b + 4))).2) else ([], 0)
def De (b : List UInt8) : List (List UInt8) × Nat := Co (b.length + 1) b
theorem Zw {b : List UInt8} (h : nok b = false) : De b = ([], 0) := by rw [De, Co, if_neg (by simp [h])]
theorem Ti {b : List UInt8} (hl : b.length ≤ 1100000) : ∀ (n a : Nat) (A : List (List UInt8)), b.length - a < n → a ≤ b.length → A.length ≤ a →
  LoopN lp 0 (Am Jv 0) (tl 0 26 [(0, .p (.sl (bs b))), (4, .sl (ef A) 0 (ef A).length), (5, .p (.int .i64 (a : Int)))]) [.spare 1 (ef A).length] (.ret, tl 0 26 [(2, .sl (ef (A ++ (Co n (b.drop a)).1)) 0 (ef (A ++ (Co n (b.drop a)).1)).length), (3, .p (.int .i64 ((a + (Co n (b.drop a)).2 : Nat) : Int)))], [.spare 1 (ef (A ++ (Co n (b.drop a)).1)).length]) := by
 intro n
 induction n with
 | zero => intro a A h; omega
 | succ n ih =>
  intro a A h ha hA
  have hn : (Int.toNat (a : Int)) = a := by omega
  have hld : (b.drop a).length ≤ 2000000 := by rw [List.length_drop]; omega
  by_cases hk : nok (b.drop a) = true
  ·have hend := Lr hk
   rw [List.length_drop] at hend
   have hw : IntKind.wrap .i64 ((a : Int) + ((Bw (List.drop (Int.toNat (a : Int)) b) + 4 : Nat) : Int)) = ((a + (Bw (b.drop a) + 4) : Nat) : Int) := by
    rw [hn, A1 (by omega) (by omega)]; omega
   have hz : (((Bw (List.drop (Int.toNat (a : Int)) b) + 4 : Nat) : Int) == 0) = false := by simp; omega
   have ihh := ih (a + (Bw (b.drop a) + 4)) (A ++ [Ca (b.drop a)]) (by omega) (by omega) (by simp; omega)
   have e1 : Co (n + 1) (b.drop a) = (Ca (b.drop a) :: (Co n (b.drop (a + (Bw (b.drop a) + 4)))).1, (Bw (b.drop a) + 4) + (Co n (b.drop (a + (Bw (b.drop a) + 4)))).2) := by
    rw [Co, if_pos hk, List.drop_drop]
   rw [e1]
   rw [List.append_assoc, List.singleton_append, Nat.add_assoc] at ihh
   have es : ef (A ++ [Ca (b.drop a)]) = ef A ++ [[PV.sl (bs (Ca (b.drop a)))]] := by simp [ef]
   rw [es] at ihh
   have hA2 : (ef A).length ≤ 2000000 := by rw [ef_len]; omega
   refine X1 (by omega) (by omega) (by rw [hn]; exact hld) (by rw [hn]; exact hk) hz hA2 ?_
   rw [hw, hn]
   exact ihh
  ·have hk' : nok (b.drop a) = false := by simpa using hk
   have e1 : Co (n + 1) (b.drop a) = ([], 0) := by rw [Co, if_neg hk]
   rw [e1, List.append_nil, Nat.add_zero]
   exact Zv (by omega) (by omega) (by rw [hn]; exact hld) (by rw [hn]; exact hk')
theorem Rz {b : List UInt8} (hl : b.length ≤ 1100000) (hk : nok b = true) :
  LoopN lp 0 (Am Jv 0) (tl 0 26 [(0, .p (.sl (bs b))), (4, .tight []), (5, .p (.int .i64 0))]) [] (.ret, tl 0 26 [(2, .sl (ef (De b).1) 0 (ef (De b).1).length), (3, .p (.int .i64 ((De b).2 : Int)))], [.spare 1 (ef (De b).1).length]) := by
 have hend := Lr hk
 have hw : IntKind.wrap .i64 (((0 : Nat) : Int) + ((Bw (List.drop (Int.toNat ((0 : Nat) : Int)) b) + 4 : Nat) : Int)) = ((Bw b + 4 : Nat) : Int) := by
  show IntKind.wrap .i64 (((0 : Nat) : Int) + ((Bw b + 4 : Nat) : Int)) = _
  rw [A1 (by omega) (by omega)]; omega
 have hz : (((Bw (List.drop (Int.toNat ((0 : Nat) : Int)) b) + 4 : Nat) : Int) == 0) = false := by simp; omega
 have ihh := Ti hl b.length (Bw b + 4) [Ca b] (by omega) hend (by simp)
 have e1 : De b = (Ca b :: (Co b.length (b.drop (Bw b + 4))).1, (Bw b + 4) + (Co b.length (b.drop (Bw b + 4))).2) := by
  rw [De, Co, if_pos hk]
 rw [e1]
 have es : ef [Ca b] = ([] : List (List PV)) ++ [[PV.sl (bs (Ca b))]] := by simp [ef]
 rw [es] at ihh
 refine Vl (a := 0) (by omega) (by omega) (by show b.length ≤ 2000000; omega) hk hz ?_
 rw [hw]
 exact ihh
theorem vScan {b : List UInt8} (hl : b.length ≤ 1100000) : Runs lp 18 [.p (.sl (bs b))] [] (.tup [.p (.sl (ef (De b).1)), .p (.int .i64 ((De b).2 : Int))], []) := by
 by_cases hk : nok b = true
 ·exact Vm (Rz hl hk)
 ·have hk' : nok b = false := by simpa using hk
  rw [Zw hk']
  exact Vn (a := 0) (X0 (a := 0) (by omega) (by omega) (by show b.length ≤ 2000000; omega) hk')
end Go.Proofs.Ythmjaeflpgcmdaa

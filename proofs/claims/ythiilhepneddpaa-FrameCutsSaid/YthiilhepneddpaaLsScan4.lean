/- Scan: which frames stand. -/
import Derived.Test.YthiilhepneddpaaLsScan3
set_option linter.unusedVariables false
set_option linter.unusedSimpArgs false
namespace Go.Proofs.Ythiilhepneddpaa
open Go Go.LS

theorem ef_len (A : List (List UInt8)) : (ef A).length = A.length := by simp [ef]
theorem nend_le {b : List UInt8} (h : nok b = true) : nend b + 4 ≤ b.length := by
  simp only [nok, Bool.and_eq_true, decide_eq_true_eq] at h
  exact h.1.2
/-- The bodies of the frames that stand, and how many bytes these have. -/
def scanF : Nat → List UInt8 → List (List UInt8) × Nat
  | 0, _ => ([], 0)
  | n + 1, b => if nok b = true then (nbody b :: (scanF n (b.drop (nend b + 4))).1, (nend b + 4) + (scanF n (b.drop (nend b + 4))).2) else ([], 0)
def scan (b : List UInt8) : List (List UInt8) × Nat := scanF (b.length + 1) b
theorem scan_no {b : List UInt8} (h : nok b = false) : scan b = ([], 0) := by rw [scan, scanF, if_neg (by simp [h])]

theorem vscanS_loop {b : List UInt8} {m : Nat} (hl : b.length ≤ 1000000) : ∀ (n a : Nat) (A : List (List UInt8)), b.length - a < n → a ≤ b.length → A.length ≤ a →
    LoopAt lp 1 (loopNo lf13 0).1 (loopNo lf13 0).2 (tl 0 26 [(0, .p (.sl (bs b))), (4, .sl (ef A) 1 (ef A).length), (5, .p (.int .i64 (a : Int)))]) [.spare 1 m, .spare 1 (ef A).length] (.ret, tl 0 26 [(2, .sl (ef (A ++ (scanF n (b.drop a)).1)) 1 (ef (A ++ (scanF n (b.drop a)).1)).length), (3, .p (.int .i64 ((a + (scanF n (b.drop a)).2 : Nat) : Int)))], [.spare 1 m, .spare 1 (ef (A ++ (scanF n (b.drop a)).1)).length]) := by
  intro n
  induction n with
  | zero => intro a A h; omega
  | succ n ih =>
    intro a A h ha hA
    have hn : (Int.toNat (a : Int)) = a := by omega
    have hld : (b.drop a).length ≤ 1000000 := by rw [List.length_drop]; omega
    by_cases hk : nok (b.drop a) = true
    · have hend := nend_le hk
      rw [List.length_drop] at hend
      have hw : IntKind.wrap .i64 ((a : Int) + ((nend (List.drop (Int.toNat (a : Int)) b) + 4 : Nat) : Int)) = ((a + (nend (b.drop a) + 4) : Nat) : Int) := by
        rw [hn, wrap_i64 (by omega) (by omega)]; omega
      have hz : (((nend (List.drop (Int.toNat (a : Int)) b) + 4 : Nat) : Int) == 0) = false := by simp; omega
      have ihh := ih (a + (nend (b.drop a) + 4)) (A ++ [nbody (b.drop a)]) (by omega) (by omega) (by simp; omega)
      have e1 : scanF (n + 1) (b.drop a) = (nbody (b.drop a) :: (scanF n (b.drop (a + (nend (b.drop a) + 4)))).1, (nend (b.drop a) + 4) + (scanF n (b.drop (a + (nend (b.drop a) + 4)))).2) := by
        rw [scanF, if_pos hk, List.drop_drop]
      rw [e1]
      rw [List.append_assoc, List.singleton_append, Nat.add_assoc] at ihh
      have es : ef (A ++ [nbody (b.drop a)]) = ef A ++ [[PV.sl (bs (nbody (b.drop a)))]] := by simp [ef]
      rw [es] at ihh
      have hA2 : (ef A).length ≤ 1000000 := by rw [ef_len]; omega
      by_cases hb : nbody (b.drop a) = []
      · refine vscanS_yyn (m := m) (by omega) (by omega) (by rw [hn]; exact hld) (by rw [hn]; exact hk) (by rw [hn]; simpa using hb) hz hA2 ?_
        rw [hw]
        rw [hb] at ihh
        rw [hb]
        exact ihh
      · refine vscanS_ynn (m := m) (by omega) (by omega) (by rw [hn]; exact hld) (by rw [hn]; exact hk) (by rw [hn]; simpa using hb) hz hA2 ?_
        rw [hw, hn]
        exact ihh
    · have hk' : nok (b.drop a) = false := by simpa using hk
      have e1 : scanF (n + 1) (b.drop a) = ([], 0) := by rw [scanF, if_neg hk]
      rw [e1, List.append_nil, Nat.add_zero]
      exact vscanS_n (m := m) (by omega) (by omega) (by rw [hn]; exact hld) (by rw [hn]; exact hk')
theorem vscanS_first {b : List UInt8} {m : Nat} (hl : b.length ≤ 1000000) (hk : nok b = true) :
    LoopAt lp 1 (loopNo lf13 0).1 (loopNo lf13 0).2 (tl 0 26 [(0, .p (.sl (bs b))), (4, .tight []), (5, .p (.int .i64 0))]) [.spare 1 m] (.ret, tl 0 26 [(2, .sl (ef (scan b).1) 1 (ef (scan b).1).length), (3, .p (.int .i64 ((scan b).2 : Int)))], [.spare 1 m, .spare 1 (ef (scan b).1).length]) := by
  have hend := nend_le hk
  have hw : IntKind.wrap .i64 (((0 : Nat) : Int) + ((nend (List.drop (Int.toNat ((0 : Nat) : Int)) b) + 4 : Nat) : Int)) = ((nend b + 4 : Nat) : Int) := by
    show IntKind.wrap .i64 (((0 : Nat) : Int) + ((nend b + 4 : Nat) : Int)) = _
    rw [wrap_i64 (by omega) (by omega)]; omega
  have hz : (((nend (List.drop (Int.toNat ((0 : Nat) : Int)) b) + 4 : Nat) : Int) == 0) = false := by simp; omega
  have ihh := vscanS_loop (m := m) hl b.length (nend b + 4) [nbody b] (by omega) hend (by simp)
  have e1 : scan b = (nbody b :: (scanF b.length (b.drop (nend b + 4))).1, (nend b + 4) + (scanF b.length (b.drop (nend b + 4))).2) := by
    rw [scan, scanF, if_pos hk]
  rw [e1]
  have es : ef [nbody b] = ([] : List (List PV)) ++ [[PV.sl (bs (nbody b))]] := by simp [ef]
  rw [es] at ihh
  by_cases hb : nbody b = []
  · refine vscanS0_yyn (m := m) (a := 0) (by omega) (by omega) hl hk (by simpa using hb) hz ?_
    rw [hw]
    rw [hb] at ihh
    rw [hb]
    exact ihh
  · refine vscanS0_ynn (m := m) (a := 0) (by omega) (by omega) hl hk (by simpa using hb) hz ?_
    rw [hw]
    exact ihh

theorem vScanS {b : List UInt8} {m : Nat} (hl : b.length ≤ 1000000) (hk : nok b = true) : Runs lp 13 [.sl (bs b) 0 m] [.spare 1 m] (.tup [.sl (ef (scan b).1) 1 (ef (scan b).1).length, .p (.int .i64 ((scan b).2 : Int))], [.spare 1 m, .spare 1 (ef (scan b).1).length]) :=
  vscanS_fn1 (vscanS_first (m := m) hl hk)
theorem vScanS0 {b : List UInt8} {m : Nat} (hl : b.length ≤ 1000000) (hk : nok b = false) : Runs lp 13 [.sl (bs b) 0 m] [.spare 1 m] (.tup [.tight [], .p (.int .i64 0)], [.spare 1 m]) :=
  vscanS_fn0 (a := 0) (vscanS0_n (a := 0) (m := m) (by omega) (by omega) hl hk)

end Go.Proofs.Ythiilhepneddpaa

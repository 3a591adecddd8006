import Derived.Test.YthmjaeflpgcmdaaLsAb
import Derived.Test.YthmjaeflpgcmdaaLsFr2
set_option linter.unusedVariables false
set_option linter.unusedSimpArgs false
set_option maxRecDepth 100000
namespace Go.Proofs.Ythmjaeflpgcmdaa
open Go Go.LS
def ef (A : BL) : List (List PV) := A.map fun x => [.sl (bs x)]
theorem Wb {b : BY} {a : Nat} (h1 : 0 ≤ (a : Int)) (h2 : (a : Int) ≤ (List.length b : Int)) (h3 : List.length (α := UInt8) (List.drop (Int.toNat (a : Int)) b) ≤ 2000000) (c4 : (nok (List.drop (Int.toNat (a : Int)) b)) = true) (c5 : (((Br (List.drop (Int.toNat (a : Int)) b) + 4 : Nat) : Int) == 0) = false) {r : RL} (hr : LoopN lp 0 (Aj Kc 0) (tl 0 26 [(0, pS b), (4, .sl (([] : List (List PV)) ++ [[PV.sl (bs (Cb (List.drop (Int.toNat (a : Int)) b)))]]) 0 (List.length (([] : List (List PV)) ++ [[PV.sl (bs (Cb (List.drop (Int.toNat (a : Int)) b)))]]))), (5, pI (IntKind.wrap .i64 ((a : Int) + ((Br (List.drop (Int.toNat (a : Int)) b) + 4 : Nat) : Int))))]) [.spare 1 (List.length (([] : List (List PV)) ++ [[PV.sl (bs (Cb (List.drop (Int.toNat (a : Int)) b)))]]))] r) :
  LoopN lp 0 (Aj Kc 0) (tl 0 26 [(0, pS b), (4, .tight []), (5, pI (a : Int))]) [] r :=
 have q1 : OpE [] (.slice 1 (.const (pS b)) (some (.const (pI (a : Int)))) none none) (pS (List.drop (Int.toNat (a : Int)) b)) := (Dm h1 h2)
 have q2 : Runs lp 37 [pS (List.drop (Int.toNat (a : Int)) b)] [] (.tup [pS (Cb (List.drop (Int.toNat (a : Int)) b)), pI ((Br (List.drop (Int.toNat (a : Int)) b) + 4 : Nat) : Int)], []) := (Va (b := (List.drop (Int.toNat (a : Int)) b)) h3 c4)
 have q3 : OpW [] (.append false 1 24 (.const (.tight [])) (.const (.tight [[.sl (bs (Cb (List.drop (Int.toNat (a : Int)) b)))]]))) (.sl (([] : List (List PV)) ++ [[PV.sl (bs (Cb (List.drop (Int.toNat (a : Int)) b)))]]) 0 (List.length (([] : List (List PV)) ++ [[PV.sl (bs (Cb (List.drop (Int.toNat (a : Int)) b)))]]))) [.spare 1 (List.length (([] : List (List PV)) ++ [[PV.sl (bs (Cb (List.drop (Int.toNat (a : Int)) b)))]]))] := (To rfl rfl (by simp [Ex]) (by simp) (by simp) (by simp) (by decide))
 lO [(2, oO q1), (0, oC q2), (7, .b false), (3, oO q3)] [_, _, _, _] (by kernel_rfl) ⟨q1, q2, cI c5, q3, trivial⟩ hr
theorem Yy {b : BY} {a : Nat} (h1 : 0 ≤ (a : Int)) (h2 : (a : Int) ≤ (List.length b : Int)) (h3 : List.length (α := UInt8) (List.drop (Int.toNat (a : Int)) b) ≤ 2000000) (c4 : (nok (List.drop (Int.toNat (a : Int)) b)) = false) :
  LoopN lp 0 (Aj Kc 0) (tl 0 26 [(0, pS b), (4, .tight []), (5, pI (a : Int))]) [] (.ret, (tl 0 26 [(2, .tight []), (3, pI (a : Int))]), []) :=
 have q1 : OpE [] (.slice 1 (.const (pS b)) (some (.const (pI (a : Int)))) none none) (pS (List.drop (Int.toNat (a : Int)) b)) := (Dm h1 h2)
 have q2 : Runs lp 37 [pS (List.drop (Int.toNat (a : Int)) b)] [] (.tup [.p (.sl []), pI 0], []) := (Sl (b := (List.drop (Int.toNat (a : Int)) b)) h3 c4)
 lX [(2, oO q1), (0, oC q2)] [_, _] (by kernel_rfl) (by kernel_rfl) ⟨q1, q2, trivial⟩
theorem Yz {b : BY} {A : BL} {a : Nat} (h1 : 0 ≤ (a : Int)) (h2 : (a : Int) ≤ (List.length b : Int)) (h3 : List.length (α := UInt8) (List.drop (Int.toNat (a : Int)) b) ≤ 2000000) (c4 : (nok (List.drop (Int.toNat (a : Int)) b)) = true) (c5 : (((Br (List.drop (Int.toNat (a : Int)) b) + 4 : Nat) : Int) == 0) = false) (h6 : List.length (ef A) ≤ 2000000) {r : RL} (hr : LoopN lp 0 (Aj Kc 0) (tl 0 26 [(0, pS b), (4, .sl (ef A ++ [[PV.sl (bs (Cb (List.drop (Int.toNat (a : Int)) b)))]]) 0 (List.length (ef A ++ [[PV.sl (bs (Cb (List.drop (Int.toNat (a : Int)) b)))]]))), (5, pI (IntKind.wrap .i64 ((a : Int) + ((Br (List.drop (Int.toNat (a : Int)) b) + 4 : Nat) : Int))))]) [.spare 1 (List.length (ef A ++ [[PV.sl (bs (Cb (List.drop (Int.toNat (a : Int)) b)))]]))] r) :
  LoopN lp 0 (Aj Kc 0) (tl 0 26 [(0, pS b), (4, .sl (ef A) 0 (List.length (ef A))), (5, pI (a : Int))]) [.spare 1 (List.length (ef A))] r :=
 have q1 : OpE [.spare 1 (List.length (ef A))] (.slice 1 (.const (pS b)) (some (.const (pI (a : Int)))) none none) (pS (List.drop (Int.toNat (a : Int)) b)) := (Dm h1 h2)
 have q2 : Runs lp 37 [pS (List.drop (Int.toNat (a : Int)) b)] [] (.tup [pS (Cb (List.drop (Int.toNat (a : Int)) b)), pI ((Br (List.drop (Int.toNat (a : Int)) b) + 4 : Nat) : Int)], []) := (Va (b := (List.drop (Int.toNat (a : Int)) b)) h3 c4)
 have q3 : OpW [.spare 1 (List.length (ef A))] (.append false 1 24 (.const (.sl (ef A) 0 (List.length (ef A)))) (.const (.tight [[.sl (bs (Cb (List.drop (Int.toNat (a : Int)) b)))]]))) (.sl (ef A ++ [[PV.sl (bs (Cb (List.drop (Int.toNat (a : Int)) b)))]]) 0 (List.length (ef A ++ [[PV.sl (bs (Cb (List.drop (Int.toNat (a : Int)) b)))]]))) [.spare 1 (List.length (ef A ++ [[PV.sl (bs (Cb (List.drop (Int.toNat (a : Int)) b)))]]))] := (Tp rfl rfl (by simp [Ex]) (by simp only [List.length_cons, List.length_nil]; omega) (by simp only [List.length_cons, List.length_nil]; omega) (by decide))
 lO [(2, oO q1), (0, oC q2), (7, .b false), (3, oO q3)] [_, _, _, _] (by kernel_rfl) ⟨q1, q2, cI c5, q3, trivial⟩ hr
theorem vscan_n {b : BY} {A : BL} {a : Nat} (h1 : 0 ≤ (a : Int)) (h2 : (a : Int) ≤ (List.length b : Int)) (h3 : List.length (α := UInt8) (List.drop (Int.toNat (a : Int)) b) ≤ 2000000) (c4 : (nok (List.drop (Int.toNat (a : Int)) b)) = false) :
  LoopN lp 0 (Aj Kc 0) (tl 0 26 [(0, pS b), (4, .sl (ef A) 0 (List.length (ef A))), (5, pI (a : Int))]) [.spare 1 (List.length (ef A))] (.ret, (tl 0 26 [(2, .sl (ef A) 0 (List.length (ef A))), (3, pI (a : Int))]), [.spare 1 (List.length (ef A))]) :=
 have q1 : OpE [.spare 1 (List.length (ef A))] (.slice 1 (.const (pS b)) (some (.const (pI (a : Int)))) none none) (pS (List.drop (Int.toNat (a : Int)) b)) := (Dm h1 h2)
 have q2 : Runs lp 37 [pS (List.drop (Int.toNat (a : Int)) b)] [] (.tup [.p (.sl []), pI 0], []) := (Sl (b := (List.drop (Int.toNat (a : Int)) b)) h3 c4)
 lX [(2, oO q1), (0, oC q2)] [_, _] (by kernel_rfl) (by kernel_rfl) ⟨q1, q2, trivial⟩
theorem Wc {b : BY} {A : BL} {a : Nat} (h1 : LoopN lp 0 (Aj Kc 0) (tl 0 26 [(0, pS b), (4, .tight []), (5, pI 0)]) [] (.ret, (tl 0 26 [(2, .sl (ef A) 0 (List.length (ef A))), (3, pI (a : Int))]), [.spare 1 (List.length (ef A))])) :
  Runs lp 18 [pS b] [] (.tup [.p (.sl (ef A)), pI (a : Int)], []) :=
 rO [(4, oL h1)] [_] (by kernel_rfl) ⟨h1, trivial⟩
theorem Wd {b : BY} {a : Nat} (h1 : LoopN lp 0 (Aj Kc 0) (tl 0 26 [(0, pS b), (4, .tight []), (5, pI 0)]) [] (.ret, (tl 0 26 [(2, .tight []), (3, pI (a : Int))]), [])) :
  Runs lp 18 [pS b] [] (.tup [.p (.sl []), pI (a : Int)], []) :=
 rO [(4, oL h1)] [_] (by kernel_rfl) ⟨h1, trivial⟩
end Go.Proofs.Ythmjaeflpgcmdaa

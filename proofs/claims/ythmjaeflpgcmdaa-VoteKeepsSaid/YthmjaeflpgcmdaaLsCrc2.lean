import Derived.Test.YthmjaeflpgcmdaaLsCrc
set_option linter.unusedVariables false
set_option linter.unusedSimpArgs false
namespace Go.Proofs.Ythmjaeflpgcmdaa
open Go Go.LS
theorem Vy {x : Nat} (hx : x < 4294967296) : Runs lp 81 [.p (.int .u32 (x : Int))] [] (.p (.int .u32 (Qe x : Int)), []) := by
 by_cases h : x % 2 = 1
 ·have := @Yb x (by rw [U2 hx, h]; rfl)
  rw [fdiv2] at this
  have e := Ya (a := x / 2) (b := 3988292384) (by omega) (by omega)
  rw [show ((3988292384 : Nat) : Int) = 3988292384 from rfl] at e
  rw [e] at this
  simpa [Qe, h] using this
 ·have := @Yc x (by rw [U2 hx, show x % 2 = 0 by omega]; rfl)
  rw [fdiv2] at this
  simpa [Qe, h] using this
theorem Ty {L : List UInt8} {i : Nat} : ∀ (j k x : Nat), j + k = 8 → x < 4294967296 →
  LoopAt lp 0 (Aj Ie 1).1 (Aj Ie 1).2 (tl 0 25 [(3, .p (.int .u32 (x : Int))), (6, .p (.sl (bs L))), (7, .p (.int .i64 ((List.length (bs L) : Nat) : Int))), (8, .p (.int .i64 (i : Int))), (16, .p (.int .i64 (k : Int)))]) []
   (.exit 2, tl 0 25 [(3, .p (.int .u32 (Vx j x : Int))), (6, .p (.sl (bs L))), (7, .p (.int .i64 ((List.length (bs L) : Nat) : Int))), (8, .p (.int .i64 (i : Int)))], []) := by
 intro j
 induction j with
 | zero => intro k x hk hx; exact vsumI_n (by simp; omega)
 | succ j ih =>
  intro k x hk hx
  refine vsumI_y (by simp; omega) (Vy hx) ?_
  have hw : IntKind.wrap .i64 ((k : Int) + 1) = ((k + 1 : Nat) : Int) := by rw [Aw (by omega) (by omega)]; rfl
  rw [hw]
  exact ih (k + 1) (Qe x) (by omega) (U0 hx)
theorem Km {L : List UInt8} {i : Nat} (h : i < L.length) : L.take (i + 1) = L.take i ++ [L.getD i 0] := by
 rw [List.take_add_one]
 simp [List.getD, h]
theorem Tz {L : List UInt8} (hl : L.length ≤ 140737488355328) : ∀ (j i : Nat), j + i = L.length → LoopAt lp 0 (Aj Ie 0).1 (Aj Ie 0).2 (tl 0 25 [(3, .p (.int .u32 (R5 4294967295 (L.take i) : Int))), (6, .p (.sl (bs L))), (7, .p (.int .i64 ((List.length (bs L) : Nat) : Int))), (8, .p (.int .i64 (i : Int)))]) []
   (.exit 0, tl 0 25 [(3, .p (.int .u32 (R5 4294967295 L : Int)))], []) := by
 intro j
 induction j with
 | zero =>
  intro i hi
  have : L.take i = L := List.take_of_length_le (by omega)
  rw [this]
  exact vsumO_n (by rw [A6]; simp; omega)
 | succ j ih =>
  intro i hi
  have hw : IntKind.wrap .i64 ((i : Int) + 1) = ((i + 1 : Nat) : Int) := by rw [Aw (by omega) (by omega)]; rfl
  have hb := Qf (L.take i) (x := 4294967295) (by omega)
  have hc : (L.getD i 0).toNat < 4294967296 := by have := (L.getD i 0).toNat_lt; omega
  refine vsumO_y (y := Vx 8 (R5 4294967295 (L.take i) ^^^ (L.getD i 0).toNat)) (by rw [A6]; simp; omega) (by omega) ?_ ?_
  ·rw [u8_32, Ya hb hc]
   exact Ty 8 0 _ rfl (Hk hb hc)
  ·rw [hw]
   have := ih (i + 1) (by omega)
   rw [Km (by omega), Pa] at this
   exact this
theorem vSum {L : List UInt8} (hl : L.length ≤ 140737488355328) : Runs lp 65 [.p (.sl (bs L))] [] (.p (.int .i64 (Ct L : Int)), []) := by
 have := vsum_fn (Tz hl L.length 0 rfl)
 rwa [not32 (Qf L (by omega))] at this
end Go.Proofs.Ythmjaeflpgcmdaa

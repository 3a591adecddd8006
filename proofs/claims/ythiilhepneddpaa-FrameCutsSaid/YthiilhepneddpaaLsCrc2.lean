/- The sums of bytes come to crcS. -/
import Derived.Test.YthiilhepneddpaaLsCrc
set_option linter.unusedVariables false
set_option linter.unusedSimpArgs false
namespace Go.Proofs.Ythiilhepneddpaa
open Go Go.LS

theorem step_runs {x : Nat} (hx : x < 4294967296) : Runs lp 16 [.p (.int .u32 (x : Int))] [] (.p (.int .u32 (crc1 x : Int)), []) := by
  by_cases h : x % 2 = 1
  · have := @step_w_y x (by rw [and1_32 hx, h]; rfl)
    rw [fdiv2] at this
    have e := xor32 (a := x / 2) (b := 3988292384) (by omega) (by omega)
    rw [show ((3988292384 : Nat) : Int) = 3988292384 from rfl] at e
    rw [e] at this
    simpa [crc1, h] using this
  · have := @step_w_n x (by rw [and1_32 hx, show x % 2 = 0 by omega]; rfl)
    rw [fdiv2] at this
    simpa [crc1, h] using this

theorem vsum_inner {L : List UInt8} {i : Nat} : ∀ (j k x : Nat), j + k = 8 → x < 4294967296 →
    LoopAt lp 0 (loopNo lf8 1).1 (loopNo lf8 1).2 (tl 0 25 [(3, .p (.int .u32 (x : Int))), (6, .p (.sl (bs L))), (7, .p (.int .i64 ((List.length (bs L) : Nat) : Int))), (8, .p (.int .i64 (i : Int))), (16, .p (.int .i64 (k : Int)))]) []
      (.exit 2, tl 0 25 [(3, .p (.int .u32 (crcN j x : Int))), (6, .p (.sl (bs L))), (7, .p (.int .i64 ((List.length (bs L) : Nat) : Int))), (8, .p (.int .i64 (i : Int)))], []) := by
  intro j
  induction j with
  | zero => intro k x hk hx; exact vsumI_n (by simp; omega)
  | succ j ih =>
    intro k x hk hx
    refine vsumI_y (by simp; omega) (step_runs hx) ?_
    have hw : IntKind.wrap .i64 ((k : Int) + 1) = ((k + 1 : Nat) : Int) := by rw [wrap_i64 (by omega) (by omega)]; rfl
    rw [hw]
    exact ih (k + 1) (crc1 x) (by omega) (crc1_lt hx)
theorem take_succ {L : List UInt8} {i : Nat} (h : i < L.length) : L.take (i + 1) = L.take i ++ [L.getD i 0] := by
  rw [List.take_add_one]
  simp [List.getD, h]
theorem vsum_outer {L : List UInt8} (hl : L.length ≤ 140737488355328) : ∀ (j i : Nat), j + i = L.length → LoopAt lp 0 (loopNo lf8 0).1 (loopNo lf8 0).2 (tl 0 25 [(3, .p (.int .u32 (crcB 4294967295 (L.take i) : Int))), (6, .p (.sl (bs L))), (7, .p (.int .i64 ((List.length (bs L) : Nat) : Int))), (8, .p (.int .i64 (i : Int)))]) []
      (.exit 0, tl 0 25 [(3, .p (.int .u32 (crcB 4294967295 L : Int)))], []) := by
  intro j
  induction j with
  | zero =>
    intro i hi
    have : L.take i = L := List.take_of_length_le (by omega)
    rw [this]
    exact vsumO_n (by rw [bs_len]; simp; omega)
  | succ j ih =>
    intro i hi
    have hw : IntKind.wrap .i64 ((i : Int) + 1) = ((i + 1 : Nat) : Int) := by rw [wrap_i64 (by omega) (by omega)]; rfl
    have hb := crcB_lt (L.take i) (x := 4294967295) (by omega)
    have hc : (L.getD i 0).toNat < 4294967296 := by have := (L.getD i 0).toNat_lt; omega
    refine vsumO_y (y := crcN 8 (crcB 4294967295 (L.take i) ^^^ (L.getD i 0).toNat)) (by rw [bs_len]; simp; omega) (by omega) ?_ ?_
    · rw [u8_32, xor32 hb hc]
      exact vsum_inner 8 0 _ rfl (xor_lt32 hb hc)
    · rw [hw]
      have := ih (i + 1) (by omega)
      rw [take_succ (by omega), crcB_snoc] at this
      exact this
theorem vSum {L : List UInt8} (hl : L.length ≤ 140737488355328) : Runs lp 8 [.p (.sl (bs L))] [] (.p (.int .i64 (crcS L : Int)), []) := by
  have := vsum_fn (vsum_outer hl L.length 0 rfl)
  rwa [not32 (crcB_lt L (by omega))] at this
theorem vsum_inner_s {L : List UInt8} {i m : Nat} : ∀ (j k x : Nat), j + k = 8 → x < 4294967296 →
    LoopAt lp 1 (loopNo lf8 1).1 (loopNo lf8 1).2 (tl 0 25 [(3, .p (.int .u32 (x : Int))), (6, .p (.sl (bs L))), (7, .p (.int .i64 ((List.length (bs L) : Nat) : Int))), (8, .p (.int .i64 (i : Int))), (16, .p (.int .i64 (k : Int)))]) [.spare 1 m]
      (.exit 2, tl 0 25 [(3, .p (.int .u32 (crcN j x : Int))), (6, .p (.sl (bs L))), (7, .p (.int .i64 ((List.length (bs L) : Nat) : Int))), (8, .p (.int .i64 (i : Int)))], [.spare 1 m]) := by
  intro j
  induction j with
  | zero => intro k x hk hx; exact vsumI_s_n (by simp; omega)
  | succ j ih =>
    intro k x hk hx
    refine vsumI_s_y (by simp; omega) (step_runs hx) ?_
    have hw : IntKind.wrap .i64 ((k : Int) + 1) = ((k + 1 : Nat) : Int) := by rw [wrap_i64 (by omega) (by omega)]; rfl
    rw [hw]
    exact ih (k + 1) (crc1 x) (by omega) (crc1_lt hx)
theorem rsum_inner_s {L : List UInt8} {i m : Nat} : ∀ (j k x : Nat), j + k = 8 → x < 4294967296 →
    LoopAt lp 1 (loopNo lf9 1).1 (loopNo lf9 1).2 (tl 0 34 [(0, .p (.sl (bs L))), (3, .p (.int .u32 (x : Int))), (4, .p (.int .i64 (i : Int))), (5, .p (.int .i64 (k : Int)))]) [.spare 1 m]
      (.exit 2, tl 0 34 [(0, .p (.sl (bs L))), (3, .p (.int .u32 (crcN j x : Int))), (4, .p (.int .i64 (i : Int)))], [.spare 1 m]) := by
  intro j
  induction j with
  | zero => intro k x hk hx; exact rsumI_s_n (by simp; omega)
  | succ j ih =>
    intro k x hk hx
    have hw : IntKind.wrap .i64 ((k : Int) + 1) = ((k + 1 : Nat) : Int) := by rw [wrap_i64 (by omega) (by omega)]; rfl
    have h' := ih (k + 1) (crc1 x) (by omega) (crc1_lt hx)
    by_cases h : x % 2 = 1
    · refine rsumI_s_yy (by simp; omega) (by rw [tmod2', h]; rfl) ?_
      have e := xor32 (a := x / 2) (b := 3988292384) (by omega) (by omega)
      rw [show ((3988292384 : Nat) : Int) = 3988292384 from rfl] at e
      rw [tdiv2_32 hx, e, hw]
      have e1 : crc1 x = (x / 2) ^^^ 3988292384 := by simp [crc1, h]
      rw [← e1]
      exact h'
    · refine rsumI_s_yn (by simp; omega) (by rw [tmod2', show x % 2 = 0 by omega]; rfl) ?_
      rw [tdiv2_32 hx, hw]
      have e1 : crc1 x = x / 2 := by simp [crc1, h]
      rw [← e1]
      exact h'

theorem vsum_outer_s {L : List UInt8} {m : Nat} (hl : L.length ≤ 140737488355328) : ∀ (j i : Nat), j + i = L.length → LoopAt lp 1 (loopNo lf8 0).1 (loopNo lf8 0).2 (tl 0 25 [(3, .p (.int .u32 (crcB 4294967295 (L.take i) : Int))), (6, .p (.sl (bs L))), (7, .p (.int .i64 ((List.length (bs L) : Nat) : Int))), (8, .p (.int .i64 (i : Int)))]) [.spare 1 m]
      (.exit 0, tl 0 25 [(3, .p (.int .u32 (crcB 4294967295 L : Int)))], [.spare 1 m]) := by
  intro j
  induction j with
  | zero =>
    intro i hi
    have : L.take i = L := List.take_of_length_le (by omega)
    rw [this]
    exact vsumO_s_n (by rw [bs_len]; simp; omega)
  | succ j ih =>
    intro i hi
    have hw : IntKind.wrap .i64 ((i : Int) + 1) = ((i + 1 : Nat) : Int) := by rw [wrap_i64 (by omega) (by omega)]; rfl
    have hb := crcB_lt (L.take i) (x := 4294967295) (by omega)
    have hc : (L.getD i 0).toNat < 4294967296 := by have := (L.getD i 0).toNat_lt; omega
    refine vsumO_s_y (y := crcN 8 (crcB 4294967295 (L.take i) ^^^ (L.getD i 0).toNat)) (by rw [bs_len]; simp; omega) (by omega) ?_ ?_
    · rw [u8_32, xor32 hb hc]
      exact vsum_inner_s 8 0 _ rfl (xor_lt32 hb hc)
    · rw [hw]
      have := ih (i + 1) (by omega)
      rw [take_succ (by omega), crcB_snoc] at this
      exact this
theorem rsum_outer_s {L : List UInt8} {m : Nat} (hl : L.length ≤ 140737488355328) : ∀ (j i : Nat), j + i = L.length → LoopAt lp 1 (loopNo lf9 0).1 (loopNo lf9 0).2 (tl 0 34 [(0, .p (.sl (bs L))), (3, .p (.int .u32 (crcB 4294967295 (L.take i) : Int))), (4, .p (.int .i64 (i : Int)))]) [.spare 1 m]
      (.exit 0, tl 0 34 [(3, .p (.int .u32 (crcB 4294967295 L : Int)))], [.spare 1 m]) := by
  intro j
  induction j with
  | zero =>
    intro i hi
    have : L.take i = L := List.take_of_length_le (by omega)
    rw [this]
    exact rsumO_s_n (by rw [bs_len]; simp; omega)
  | succ j ih =>
    intro i hi
    have hw : IntKind.wrap .i64 ((i : Int) + 1) = ((i + 1 : Nat) : Int) := by rw [wrap_i64 (by omega) (by omega)]; rfl
    have hb := crcB_lt (L.take i) (x := 4294967295) (by omega)
    have hc : (L.getD i 0).toNat < 4294967296 := by have := (L.getD i 0).toNat_lt; omega
    refine rsumO_s_y (y := crcN 8 (crcB 4294967295 (L.take i) ^^^ (L.getD i 0).toNat)) (by rw [bs_len]; simp; omega) (by omega) ?_ ?_
    · rw [u8_32, xor32 hb hc]
      exact rsum_inner_s 8 0 _ rfl (xor_lt32 hb hc)
    · rw [hw]
      have := ih (i + 1) (by omega)
      rw [take_succ (by omega), crcB_snoc] at this
      exact this
theorem vSum_s {L : List UInt8} {m : Nat} (hl : L.length ≤ 140737488355328) : Runs lp 8 [.sl (bs L) 0 m] [.spare 1 m] (.p (.int .i64 (crcS L : Int)), [.spare 1 m]) := by
  have := vsum_fn_s (vsum_outer_s (m := m) hl L.length 0 rfl)
  rwa [not32 (crcB_lt L (by omega))] at this
theorem rSum_s {L : List UInt8} {m : Nat} (hl : L.length ≤ 140737488355328) : Runs lp 9 [.sl (bs L) 0 m] [.spare 1 m] (.p (.int .i64 (crcS L : Int)), [.spare 1 m]) := by
  have := rsum_fn_s (rsum_outer_s (m := m) hl L.length 0 rfl)
  rwa [not32 (crcB_lt L (by omega))] at this
end Go.Proofs.Ythiilhepneddpaa

/- Put, Size and Frame: what they come to. -/
import Derived.Test.YthiilhepneddpaaLsPuts3
set_option linter.unusedVariables false
set_option linter.unusedSimpArgs false
namespace Go.Proofs.Ythiilhepneddpaa
open Go Go.LS

def fsize (b : List UInt8) : Int := if b.length ≤ 65536 then ((frame b).length : Int) else 0

section
variable {h b : List UInt8} {m : Nat}
theorem lenBs (b : List UInt8) : (((List.length (bs b) : Nat) : Int)).toNat = b.length := by rw [bs_len]; omega
theorem small {b : List UInt8} (c : (decide (((List.length (bs b) : Nat) : Int) > 65536)) = false) : b.length ≤ 65536 := by
  rw [bs_len] at c
  simp at c
  omega
theorem vneb (n : Nat) : vcode n ≠ [] := by intro h; have := vcode_pos n; rw [h] at this; simp at this
theorem vPutL (c : (decide (((List.length (bs b) : Nat) : Int) > 65536)) = true) : Runs lp 10 [.p (.sl (bs h)), .p (.sl (bs b))] [] (.tup [.tight [], .p (.int .i64 3)], []) := put_y c
theorem vPutL_s (c : (decide (((List.length (bs b) : Nat) : Int) > 65536)) = true) : Runs lp 10 [.sl (bs h) 0 m, .p (.sl (bs b))] [.spare 1 m] (.tup [.tight [], .p (.int .i64 3)], [.spare 1 m]) := put_s_y c
theorem vPut_s (c : (decide (((List.length (bs b) : Nat) : Int) > 65536)) = false) (hh : h.length ≤ 199999999000000) :
    Runs lp 10 [.sl (bs h) 0 m, .p (.sl (bs b))] [.spare 1 m] (.tup [.sl (bs (h ++ frame b)) 1 (h ++ frame b).length, .p (.int .i64 0)], [.spare 1 m, .spare 1 (h ++ frame b).length]) := by
  have hb := small c
  have l1 := vcode_len b.length (by omega)
  have l2 := fpre_len hb
  have := @put_s_n h b m c
  rw [lenBs] at this
  have e : h ++ (vcode b.length ++ b) ++ four (crcS (vcode b.length ++ b)) = h ++ frame b := by simp [frame, fpre]
  rw [e] at this
  have l3 : (vcode b.length ++ b).length ≤ 65546 := l2
  exact this ⟨by rw [bs_len]; omega, by rw [bs_len]; omega⟩ (by omega) (by omega) hh (by omega) (by rw [four_len]; omega)
theorem vSize (b : List UInt8) : Runs lp 11 [.p (.sl (bs b))] [] (.p (.int .i64 (fsize b)), []) := by
  by_cases hb : b.length ≤ 65536
  · have l1 := vcode_len b.length (by omega)
    have := @size_n b (by rw [bs_len]; simp; omega) ⟨by rw [bs_len]; omega, by rw [bs_len]; omega⟩
    rw [lenBs, bs_len, bs_len] at this
    have e : IntKind.wrap .i64 ((IntKind.wrap .i64 (((vcode b.length).length : Int) + (b.length : Int))) + 4) = fsize b := by
      rw [wrap_i64 (n := ((vcode b.length).length : Int) + (b.length : Int)) (by omega) (by omega), wrap_i64 (by omega) (by omega)]
      simp [fsize, hb, frame, fpre, four]
      omega
    rwa [e] at this
  · have e : fsize b = 0 := by simp [fsize, hb]
    rw [e]
    exact size_y (by rw [bs_len]; simp; omega)
theorem rFrame (hb : b.length ≤ 65536) : Runs lp 12 [.p (.sl (bs b))] [] (.sl (bs (frame b)) 0 (frame b).length, [.spare 1 (frame b).length]) := by
  have l1 := vcode_len b.length (by omega)
  have l2 := fpre_len hb
  have l3 : (vcode b.length ++ b).length ≤ 65546 := l2
  have := @frm b
  rw [lenBs] at this
  exact this ⟨by rw [bs_len]; omega, by rw [bs_len]; omega⟩ (by omega) (by omega) (by rw [four_len]; omega)
end
end Go.Proofs.Ythiilhepneddpaa

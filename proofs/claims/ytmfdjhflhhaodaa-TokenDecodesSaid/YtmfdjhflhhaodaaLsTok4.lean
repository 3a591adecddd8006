/- Decode, the program's and the document's. -/
import Derived.Test.YtmfdjhflhhaodaaLsTok3
import Derived.Test.YtmfdjhflhhaodaaLsLives
set_option linter.unusedVariables false
set_option linter.unusedSimpArgs false
namespace Go.Proofs.Ytmfdjhflhhaodaa
open Go Go.LS

def d1 (b : List UInt8) : Int × Src := sByte (b, false)
def d2 (b : List UInt8) : Int × Src := sCount (d1 b).2 1099511627776
def d3 (b : List UInt8) : Int × Src := sCount (d2 b).2 1099511627776
/-- Are the bytes a token's code? -/
def dok (b : List UInt8) : Bool := !(d3 b).2.2 && tmay (d1 b).1 (d2 b).1 (d3 b).1 && decide (tcode (d1 b).1 (d2 b).1 (d3 b).1 = b)
def dK (b : List UInt8) : Int := if dok b = true then (d1 b).1 else 0
def dX (b : List UInt8) : Int := if dok b = true then (d2 b).1 else 0
def dT (b : List UInt8) : Int := if dok b = true then (d3 b).1 else 0
def dE (b : List UInt8) : Int := if dok b = true then 0 else 180

theorem tmay_bounds {kd ix tm : Int} (h : tmay kd ix tm = true) : (0 ≤ ix ∧ ix ≤ 4611686018427387904) ∧ (0 ≤ tm ∧ tm ≤ 4611686018427387904) := by
  simp [tmay] at h
  omega
theorem tcode_len {kd ix tm : Int} (h1 : ix ≤ 4611686018427387904) (h2 : tm ≤ 4611686018427387904) : (tcode kd ix tm).length ≤ 140737488355328 := by
  have := tpre_len (kd := kd) h1 h2
  simp [tcode, four]; omega

theorem vDec (b : List UInt8) : Runs lp 10 [.p (.sl (bs b))] [] (.tup [tok (dK b) (dX b) (dT b), .p (.int .i64 (dE b))], []) := by
  by_cases h1 : (d3 b).2.2 = true
  · have hk : dok b = false := by simp [dok, h1]
    simpa [dK, dX, dT, dE, hk] using @vdec_y b h1
  · by_cases h2 : tmay (d1 b).1 (d2 b).1 (d3 b).1 = true
    · obtain ⟨g1, g2⟩ := tmay_bounds h2
      by_cases h3 : tcode (d1 b).1 (d2 b).1 (d3 b).1 = b
      · have hk : dok b = true := by simp [dok, h1, h2, h3]
        simp only [dK, dX, dT, dE, hk, if_true]
        exact @vdec_nnn b (show (d3 b).2.2 = false by simpa using h1) (show (!(tmay (d1 b).1 (d2 b).1 (d3 b).1)) = false by simpa using h2) g1 g2 (tcode_len g1.2 g2.2) (show (!(decide (tcode (d1 b).1 (d2 b).1 (d3 b).1 = b))) = false by simpa using h3)
      · have hk : dok b = false := by simp [dok, h3]
        simp only [dK, dX, dT, dE, hk, Bool.false_eq_true, if_false]
        exact @vdec_nny b (show (d3 b).2.2 = false by simpa using h1) (show (!(tmay (d1 b).1 (d2 b).1 (d3 b).1)) = false by simpa using h2) g1 g2 (tcode_len g1.2 g2.2) (show (!(decide (tcode (d1 b).1 (d2 b).1 (d3 b).1 = b))) = true by simpa using h3)
    · have hk : dok b = false := by simp [dok, h2]
      simp only [dK, dX, dT, dE, hk, Bool.false_eq_true, if_false]
      exact @vdec_ny b (show (d3 b).2.2 = false by simpa using h1) (show (!(tmay (d1 b).1 (d2 b).1 (d3 b).1)) = true by simpa using h2)
theorem vDec_s (b : List UInt8) (m : Nat) : Runs lp 10 [.sl (bs b) 0 m] [.spare 1 m] (.tup [tok (dK b) (dX b) (dT b), .p (.int .i64 (dE b))], [.spare 1 m]) := by
  by_cases h1 : (d3 b).2.2 = true
  · have hk : dok b = false := by simp [dok, h1]
    simpa [dK, dX, dT, dE, hk] using @vdec_s_y b m h1
  · by_cases h2 : tmay (d1 b).1 (d2 b).1 (d3 b).1 = true
    · obtain ⟨g1, g2⟩ := tmay_bounds h2
      by_cases h3 : tcode (d1 b).1 (d2 b).1 (d3 b).1 = b
      · have hk : dok b = true := by simp [dok, h1, h2, h3]
        simp only [dK, dX, dT, dE, hk, if_true]
        exact @vdec_s_nnn b m (show (d3 b).2.2 = false by simpa using h1) (show (!(tmay (d1 b).1 (d2 b).1 (d3 b).1)) = false by simpa using h2) g1 g2 (tcode_len g1.2 g2.2) (show (!(decide (tcode (d1 b).1 (d2 b).1 (d3 b).1 = b))) = false by simpa using h3)
      · have hk : dok b = false := by simp [dok, h3]
        simp only [dK, dX, dT, dE, hk, Bool.false_eq_true, if_false]
        exact @vdec_s_nny b m (show (d3 b).2.2 = false by simpa using h1) (show (!(tmay (d1 b).1 (d2 b).1 (d3 b).1)) = false by simpa using h2) g1 g2 (tcode_len g1.2 g2.2) (show (!(decide (tcode (d1 b).1 (d2 b).1 (d3 b).1 = b))) = true by simpa using h3)
    · have hk : dok b = false := by simp [dok, h2]
      simp only [dK, dX, dT, dE, hk, Bool.false_eq_true, if_false]
      exact @vdec_s_ny b m (show (d3 b).2.2 = false by simpa using h1) (show (!(tmay (d1 b).1 (d2 b).1 (d3 b).1)) = true by simpa using h2)
theorem rDec (b : List UInt8) : Runs lp 12 [.p (.sl (bs b))] [] (.tup [tok (dK b) (dX b) (dT b), .p (.bool (dok b))], []) := by
  by_cases h1 : (d3 b).2.2 = true
  · have hk : dok b = false := by simp [dok, h1]
    simpa [dK, dX, dT, dE, hk] using @rdec_y b h1
  · by_cases h2 : tmay (d1 b).1 (d2 b).1 (d3 b).1 = true
    · obtain ⟨g1, g2⟩ := tmay_bounds h2
      by_cases h3 : tcode (d1 b).1 (d2 b).1 (d3 b).1 = b
      · have hk : dok b = true := by simp [dok, h1, h2, h3]
        simp only [dK, dX, dT, dE, hk, if_true]
        exact @rdec_nnn b (show (d3 b).2.2 = false by simpa using h1) (show (!(tmay (d1 b).1 (d2 b).1 (d3 b).1)) = false by simpa using h2) g1 g2 (show (!((tcode (d1 b).1 (d2 b).1 (d3 b).1) == b)) = false by simpa using h3)
      · have hk : dok b = false := by simp [dok, h3]
        simp only [dK, dX, dT, dE, hk, Bool.false_eq_true, if_false]
        exact @rdec_nny b (show (d3 b).2.2 = false by simpa using h1) (show (!(tmay (d1 b).1 (d2 b).1 (d3 b).1)) = false by simpa using h2) g1 g2 (show (!((tcode (d1 b).1 (d2 b).1 (d3 b).1) == b)) = true by simpa using h3)
    · have hk : dok b = false := by simp [dok, h2]
      simp only [dK, dX, dT, dE, hk, Bool.false_eq_true, if_false]
      exact @rdec_ny b (show (d3 b).2.2 = false by simpa using h1) (show (!(tmay (d1 b).1 (d2 b).1 (d3 b).1)) = true by simpa using h2)

theorem vDec_t : Runs lp 10 [.tight []] [] (.tup [tok (dK []) (dX []) (dT []), .p (.int .i64 (dE []))], []) := by
  obtain ⟨n, hn⟩ := vDec []
  exact ⟨n, by cases n with
    | zero => exact hn
    | succ n => exact hn⟩
theorem rDec_t : Runs lp 12 [.tight []] [] (.tup [tok (dK []) (dX []) (dT []), .p (.bool (dok []))], []) := by
  obtain ⟨n, hn⟩ := rDec []
  exact ⟨n, by cases n with
    | zero => exact hn
    | succ n => exact hn⟩

/-- A token's code is decoded. -/
theorem dok_code {kd ix tm : Int} (h : tmay kd ix tm = true) : dok (tcode kd ix tm) = true ∧ dK (tcode kd ix tm) = kd ∧ dX (tcode kd ix tm) = ix ∧ dT (tcode kd ix tm) = tm := by
  obtain ⟨g1, g2⟩ := tmay_bounds h
  have hb : (1 : Int) ≤ kd ∧ kd ≤ 2 ∧ ix ≤ 1099511627776 ∧ tm ≤ 1099511627776 := by simp [tmay] at h; omega
  have hw : IntKind.wrap .u8 kd = kd := by
    simp only [IntKind.wrap, IntKind.bits, IntKind.signed]
    simp
    omega
  have e1 : d1 (tcode kd ix tm) = (kd, vcode ix.toNat ++ (vcode tm.toNat ++ four (crcS (tpre kd ix tm))), false) := by
    simp only [d1, sByte, tcode, tpre, hw]
    simp
    omega
  have e2 : d2 (tcode kd ix tm) = (ix, vcode tm.toNat ++ four (crcS (tpre kd ix tm)), false) := by
    simp only [d2, e1]
    rw [sCount_back (by omega) (by omega), Int.toNat_of_nonneg g1.1]
  have e3 : d3 (tcode kd ix tm) = (tm, four (crcS (tpre kd ix tm)), false) := by
    simp only [d3, e2]
    rw [sCount_back (by omega) (by omega), Int.toNat_of_nonneg g2.1]
  have hk : dok (tcode kd ix tm) = true := by simp [dok, e1, e2, e3, h]
  simp [dK, dX, dT, hk, e1, e2, e3]
end Go.Proofs.Ytmfdjhflhhaodaa

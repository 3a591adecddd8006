import Derived.Test.YtmflmbfheaaglaaLsRd3
set_option linter.unusedVariables false
set_option linter.unusedSimpArgs false
namespace Go.Proofs.Ytmflmbfheaaglaa
open Go Go.LS
def unzz (u : Nat) : Int := if u % 2 = 0 then ((u / 2 : Nat) : Int) else -((u / 2 : Nat) : Int) - 1
theorem wrapI_nat {n : Nat} (h : n < 2 ^ 63) : IntKind.wrap .i64 (n : Int) = (n : Int) := wrap_i64 (by omega) (by omega)
theorem unzz_prog {u : Nat} (h : u < 2 ^ 64) : IntKind.wrap .i64 ↑(BitVec.ofInt (IntKind.bits .i64) (IntKind.wrap .i64 (Int.fdiv (u : Int) (2 ^ 1))) ^^^ BitVec.ofInt (IntKind.bits .i64) (IntKind.wrap .i64 (0 - (IntKind.wrap .i64 (IntKind.wrap .u64 ↑(BitVec.ofInt (IntKind.bits .u64) (u : Int) &&& BitVec.ofInt (IntKind.bits .u64) 1).toNat))))).toNat = unzz u := by
  have h1 : Int.fdiv (u : Int) (2 ^ 1) = ((u / 2 : Nat) : Int) := by
    rw [show (2 : Int) ^ 1 = 2 from rfl, Int.fdiv_eq_ediv_of_nonneg _ (by omega)]; rfl
  have h2 : (BitVec.ofInt (IntKind.bits .u64) (u : Int) &&& BitVec.ofInt (IntKind.bits .u64) 1).toNat = u % 2 := by
    show (BitVec.ofInt 64 (u : Int) &&& BitVec.ofInt 64 1).toNat = u % 2
    rw [BitVec.toNat_and, BitVec.toNat_ofInt, BitVec.toNat_ofInt]
    have e1 : ((u : Int) % ((2 ^ 64 : Nat) : Int)).toNat = u := by omega
    have e2 : ((1 : Int) % ((2 ^ 64 : Nat) : Int)).toNat = 1 := by omega
    rw [e1, e2, Nat.and_one_is_mod]
  rw [h1, h2, wrapI_nat (n := u / 2) (by omega), wrap_u64_nat (n := u % 2) (by omega), wrapI_nat (n := u % 2) (by omega)]
  unfold unzz
  by_cases hu : u % 2 = 0
  · rw [if_pos hu, hu]
    have e : IntKind.wrap .i64 (0 - ((0 : Nat) : Int)) = 0 := by decide +kernel
    rw [e]
    show IntKind.wrap .i64 ↑(BitVec.ofInt 64 ((u / 2 : Nat) : Int) ^^^ BitVec.ofInt 64 0).toNat = _
    have e0 : BitVec.ofInt 64 0 = 0#64 := by decide +kernel
    rw [e0, BitVec.xor_zero, BitVec.toNat_ofInt]
    have e1 : (((u / 2 : Nat) : Int) % ((2 ^ 64 : Nat) : Int)).toNat = u / 2 := by omega
    rw [e1, wrapI_nat (by omega)]
  · have h1 : u % 2 = 1 := by omega
    rw [if_neg hu, h1]
    have e : IntKind.wrap .i64 (0 - ((1 : Nat) : Int)) = -1 := by decide +kernel
    rw [e]
    show IntKind.wrap .i64 ↑(BitVec.ofInt 64 ((u / 2 : Nat) : Int) ^^^ BitVec.ofInt 64 (-1)).toNat = _
    have e0 : BitVec.ofInt 64 (-1) = BitVec.allOnes 64 := by decide +kernel
    rw [e0, BitVec.xor_allOnes, BitVec.toNat_not, BitVec.toNat_ofInt]
    have e1 : (((u / 2 : Nat) : Int) % ((2 ^ 64 : Nat) : Int)).toNat = u / 2 := by omega
    rw [e1]
    simp only [IntKind.wrap, IntKind.bits, IntKind.signed]
    simp
    omega
abbrev Src := List UInt8 × Bool
abbrev sto (s : Src) : List LObj := stL s.1 s.2
def sByte (s : Src) : Int × Src := if s.2 = true ∨ s.1 = [] then (0, s.1, true) else (((s.1.getD 0 0).toNat : Int), s.1.drop 1, false)
def sInt (s : Src) : Int × Src := if s.2 = true ∨ glen s.1 = 0 then (0, s.1, true) else (unzz (gnum s.1), s.1.drop (glen s.1), false)
def sCount (s : Src) (most : Int) : Int × Src :=
  if s.2 = true ∨ glen s.1 = 0 ∨ 4611686018427387904 < gnum s.1 ∨ most < (gnum s.1 : Int) then (0, s.1, true) else ((gnum s.1 : Int), s.1.drop (glen s.1), false)
def sText (s : Src) (most : Int) : List UInt8 × Src :=
  if s.2 = true ∨ glen s.1 = 0 ∨ 4611686018427387904 < gnum s.1 ∨ most < (gnum s.1 : Int) ∨ s.1.length < glen s.1 + gnum s.1 then ([], s.1, true)
  else ((s.1.drop (glen s.1)).take (gnum s.1), s.1.drop (glen s.1 + gnum s.1), false)
theorem vByte (s : Src) : Runs lp 47 [.ptr 0 0 0] (sto s) (.p (.int .i64 (sByte s).1), sto (sByte s).2) := by
  obtain ⟨L, bad⟩ := s
  have := @vbyte L bad (by cases L <;> simp [bs]) (by simp) (by cases L <;> simp [bs] <;> try omega)
  cases bad with
  | true => simpa [sByte] using this
  | false =>
    cases L with
    | nil => simpa [sByte, sto, stL, bs] using this
    | cons c r =>
      have hc := c.toNat_lt
      have e : IntKind.wrap .i64 (c.toNat : Int) = (c.toNat : Int) := wrap_i64 (by omega) (by omega)
      have h0 : ¬ ((r.length : Int) + 1 = 0) := by omega
      simpa [sByte, bs_len, e, h0] using this
theorem vInt (s : Src) : Runs lp 48 [.ptr 0 0 0] (sto s) (.p (.int .i64 (sInt s).1), sto (sInt s).2) := by
  obtain ⟨L, bad⟩ := s
  cases bad with
  | true => simpa [sInt] using @vint_b L
  | false =>
    by_cases h : glen L = 0
    · simpa [sInt, h] using @vint_o_y L (by simp [h])
    · have := @vint_o_n L (by simp [h]) (glen_le L)
      rw [unzz_prog (gnum_lt L)] at this
      simpa [sInt, h] using this
theorem vCount (s : Src) (most : Int) : Runs lp 63 [.ptr 0 0 0, .p (.int .i64 most)] (sto s) (.p (.int .i64 (sCount s most).1), sto (sCount s most).2) := by
  obtain ⟨L, bad⟩ := s
  cases bad with
  | true => simpa [sCount] using @vcount_b L most
  | false =>
    by_cases h1 : gnum L ≤ 4611686018427387904
    · have e := wrapI_nat (n := gnum L) (by omega)
      have h1' : (gnum L : Int) ≤ 4611686018427387904 := by omega
      by_cases h : glen L = 0
      · simpa [sCount, h] using @vcount_o_yy L most (by simp [h1']) (by simp [h])
      · by_cases h2 : (gnum L : Int) ≤ most
        · have := @vcount_o_yny L most (by simp [h1']) (by simp [h]) (by rw [e]; simpa using h2) (glen_le L)
          rw [e] at this
          have q1 : ¬ 4611686018427387904 < gnum L := by omega
          have q2 : ¬ most < (gnum L : Int) := by omega
          simpa [sCount, h, q1, q2] using this
        · have q2 : most < (gnum L : Int) := by omega
          simpa [sCount, h, q2] using @vcount_o_ynn L most (by simp [h1']) (by simp [h]) (by rw [e]; simpa using q2)
    · have h1' : ¬ (gnum L : Int) ≤ 4611686018427387904 := by omega
      have q1 : 4611686018427387904 < gnum L := by omega
      by_cases h : glen L = 0
      · simpa [sCount, h] using @vcount_o_ny L most (by simp; omega) (by simp [h])
      · simpa [sCount, h, q1] using @vcount_o_nn L most (by simp; omega) (by simp [h])
theorem vText (s : Src) (most : Int) (hl : s.1.length ≤ 140737488355328) : Runs lp 49 [.ptr 0 0 0, .p (.int .i64 most)] (sto s) (.p (.str (sText s most).1), sto (sText s most).2) := by
  obtain ⟨L, bad⟩ := s
  replace hl : L.length ≤ 140737488355328 := hl
  cases bad with
  | true => simpa [sText] using @vtext_b L most
  | false =>
    have hg := glen_le L
    by_cases h1 : 4611686018427387904 < gnum L
    · by_cases h : glen L = 0
      · simpa [sText, h] using @vtext_o_y L most (by simp; omega)
      · simpa [sText, h, h1] using @vtext_o_y L most (by simp; omega)
    · have e := wrapI_nat (n := gnum L) (by omega)
      by_cases h2 : most < (gnum L : Int)
      · simpa [sText, h2] using @vtext_o_ny L most (by simp; omega) (by rw [e]; simpa using h2)
      · have e3 : IntKind.wrap .i64 (((List.length (bs L) : Nat) : Int) - (glen L : Int)) = (L.length : Int) - glen L := by rw [bs_len, wrap_i64 (by omega) (by omega)]
        by_cases h3 : L.length < glen L + gnum L
        · simpa [sText, h3] using @vtext_o_nny L most (by simp; omega) (by rw [e]; simp; omega) (by rw [e, e3]; simp; omega)
        · by_cases h : glen L = 0
          · simpa [sText, h] using @vtext_o_nnny L most (by simp; omega) (by rw [e]; simp; omega) (by rw [e, e3]; simp; omega) (by simp [h])
          · have e4 : IntKind.wrap .i64 ((glen L : Int) + (gnum L : Int)) = ((glen L + gnum L : Nat) : Int) := by rw [wrap_i64 (by omega) (by omega)]; rfl
            have := @vtext_o_nnnn L most (by simp; omega) (by rw [e]; simp; omega) (by rw [e, e3]; simp; omega) (by simp [h]) (by omega) (by rw [e, e4]; omega) (by rw [e, e4]; omega) (by rw [e, e4]; omega)
            rw [e, e4] at this
            simp only [Int.toNat_natCast] at this
            have e5 : List.drop (glen L) (List.take (glen L + gnum L) L) = List.take (gnum L) (List.drop (glen L) L) := by rw [List.drop_take]; congr 1; omega
            rw [e5] at this
            simpa [sText, h, h1, h2, h3] using this
def sDone (s : Src) : Int := if s.2 = true ∨ s.1 ≠ [] then 10 else 0
theorem vDone (s : Src) : Runs lp 24 [.ptr 0 0 0] (sto s) (.p (.int .i64 (sDone s)), sto s) := by
  obtain ⟨L, bad⟩ := s
  have := @vdone L bad
  cases bad with
  | true => simpa [sDone] using this
  | false =>
    cases L with
    | nil => simpa [sDone, sto, stL, bs] using this
    | cons c r => 
      have h0 : (0 : Int) < (r.length : Int) + 1 := by omega
      simpa [sDone, bs_len, h0] using this
theorem vBad (s : Src) : Runs lp 20 [.ptr 0 0 0] (sto s) (.p (.bool s.2), sto s) := @vbad s.1 s.2
theorem vSpoil (s : Src) : Runs lp 35 [.ptr 0 0 0] (sto s) (.tup [], sto (s.1, true)) := @vspoil s.1 s.2
end Go.Proofs.Ytmflmbfheaaglaa

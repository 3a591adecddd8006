/- What single steps come to, over values that are not known. -/
import Derived.Test.YthiilhepneddpaaLsRule
set_option linter.unusedVariables false
set_option linter.unusedSimpArgs false
namespace Go.LS

theorem unb_byte (b : UInt8) : unb [.int .u8 b.toNat] = some b := by simp [unb]
theorem unbs_bs : ∀ (L : List UInt8), unbs (bs L) = some L
  | [] => rfl
  | b :: r => by
    have := unbs_bs r
    simp only [bs] at this
    simp [bs, unbs, unb_byte, this]

theorem opIs_b2s {v : LV} {L : List UInt8} {st : List LObj} (h : v.asSl = some (bs L)) : opStep noCall [] st (.cv .b2s (.const v)) = some (.p (.str L), st) := by
  have : lcv .b2s v = some (.str L) := by
    cases v <;> simp only [LV.asSl] at h <;> first | (cases h; done) | skip
    case p v =>
      cases v <;> simp only [LV.asSl] at h <;> first | (cases h; done) | skip
      cases h; simp [lcv, LV.asSl, unbs_bs]
    case sl es t f => cases h; simp [lcv, LV.asSl, unbs_bs]
    case tight es => cases h; simp [lcv, LV.asSl, unbs_bs]
  simp [opStep, LX.ev, this]

theorem bs_len (L : List UInt8) : (bs L).length = L.length := by simp [bs]
theorem bs_append (L M : List UInt8) : bs (L ++ M) = bs L ++ bs M := by simp [bs]
theorem bs_sized (L : List UInt8) : sized 1 (bs L) = true := by simp [sized, bs]
theorem bs_empty (M : List UInt8) : (bs M).isEmpty = M.isEmpty := by cases M <;> rfl

theorem byte_bs {e : Int} (h0 : 0 ≤ e) (h1 : e ≤ 255) : [[PV.int .u8 e]] = bs [UInt8.ofNat e.toNat] := by
  simp [bs]
  omega

theorem opIs_appS {str : Bool} {L M : List UInt8} {es : List (List PV)} {t : Nat} {st : List LObj} {x : LV} (hs : st[t]? = some (.spare 1 L.length)) (hx : appended str st x = some es) (he : es = bs M)
    (hl : L.length + M.length ≤ 140737488355328) : opStep noCall [] st (.append str 1 1 (.const (.sl (bs L) t L.length)) (.const x)) = some (.sl (bs (L ++ M)) t (L ++ M).length, st.set t (.spare 1 (L ++ M).length)) := by
  subst he
  simp only [opStep, LX.ev, lappend, hx, bs_sized, hs, bs_empty, bs_len]
  by_cases hM : M.isEmpty = true
  · have : M = [] := by simpa using hM
    subst this
    simp
    obtain ⟨h1, h2⟩ := List.getElem?_eq_some_iff.1 hs
    conv => rhs; rw [← h2]
    simp
  · simp only [hM]
    simp [bs_append, maxLen]
    omega

theorem opIs_appT {str : Bool} {L M : List UInt8} {es es0 : List (List PV)} {st : List LObj} {x : LV} (he0 : es0 = bs L) (hx : appended str st x = some es) (he : es = bs M) (hM : M ≠ [])
    (hl : L.length + M.length ≤ 140737488355328) : opStep noCall [] st (.append str 1 1 (.const (.tight es0)) (.const x)) = some (.sl (bs (L ++ M)) st.length (L ++ M).length, st ++ [.spare 1 (L ++ M).length]) := by
  subst he he0
  have : M.isEmpty = false := by cases M <;> simp_all
  simp only [opStep, LX.ev, lappend, hx, bs_sized, bs_empty, bs_len, this]
  simp [bs_append, maxLen]
  omega

/-- The code of a number, group by group. -/
def vcode (u : Nat) : List UInt8 := if u < 128 then [UInt8.ofNat u] else UInt8.ofNat (u % 128 + 128) :: vcode (u / 128)
termination_by u
decreasing_by omega

theorem vcode_len : ∀ (u : Nat), u < 2 ^ 64 → (vcode u).length ≤ 10 := by
  have key : ∀ k u, u < 128 ^ (k + 1) → (vcode u).length ≤ k + 1 := by
    intro k
    induction k with
    | zero => intro u hu; rw [vcode]; simp at hu; simp [hu]
    | succ k ih =>
      intro u hu
      rw [vcode]
      split
      · simp
      · simp only [List.length_cons]
        have := ih (u / 128) (by rw [Nat.div_lt_iff_lt_mul (by omega)]; rw [Nat.pow_succ] at hu; exact hu)
        omega
  intro u hu
  exact key 9 u (Nat.lt_of_lt_of_le hu (by decide))

end Go.LS
namespace Go.LS
theorem wrap_u8_range (n : Int) : 0 ≤ IntKind.wrap .u8 n ∧ IntKind.wrap .u8 n ≤ 255 := by
  simp only [IntKind.wrap, IntKind.bits, IntKind.signed]
  simp
  omega
theorem wrap_u8_bs (n : Int) : [[PV.int .u8 (IntKind.wrap .u8 n)]] = bs [UInt8.ofNat (IntKind.wrap .u8 n).toNat] := byte_bs (wrap_u8_range n).1 (wrap_u8_range n).2
end Go.LS
namespace Go.LS
theorem opIs_s2b {s : List UInt8} {st : List LObj} (h : s.length ≤ 140737488355328) : opStep noCall [] st (.cv .s2b (.const (.p (.str s)))) = some (.p (.sl (bs s)), st) := by
  simp [opStep, LX.ev, lcv, h]
theorem wrap_u64_nat {n : Nat} (h : n < 2 ^ 64) : IntKind.wrap .u64 (n : Int) = (n : Int) := by
  simp only [IntKind.wrap, IntKind.bits, IntKind.signed]
  simp
  omega
theorem wrap_u64 (n : Int) : IntKind.wrap .u64 n = n % 18446744073709551616 := by
  simp only [IntKind.wrap, IntKind.bits, IntKind.signed]
  simp
theorem wrap_i64 {n : Int} (h0 : -9223372036854775808 ≤ n) (h1 : n ≤ 9223372036854775807) : IntKind.wrap .i64 n = n := by
  simp only [IntKind.wrap, IntKind.bits, IntKind.signed]
  simp
  omega
end Go.LS
namespace Go.LS
theorem bs_all (L : List UInt8) (n : Nat) (h : n = 1) : ((bs L).all fun e => e.length == n) = true := by subst h; simp [bs]
theorem bs_take (L : List UInt8) (k : Nat) : bs (L.take k) = (bs L).take k := by simp [bs, List.map_take]
theorem bs_drop (L : List UInt8) (k : Nat) : bs (L.drop k) = (bs L).drop k := by simp [bs, List.map_drop]

theorem opIs_sliceTake {M : List UInt8} {t n k j : Nat} {st : List LObj} (hj : k = j) (hk : k < M.length) :
    opStep noCall [] st (.slice 1 (.const (.sl (bs M) t n)) none (some (.const (.p (.int .i64 ((k : Nat) : Int))))) none) = some (.p (.sl (bs (M.take j))), st) := by
  subst hj
  have h1 : (k : Int) ≤ (M.length : Int) := by omega
  have h2 : ¬ (k = M.length) := by omega
  simp [opStep, LX.ev, rslice, LV.asSl, bs_all, lslice, bnd, bs_len, h1, h2, bs_take]

theorem opIs_sliceAll {M : List UInt8} {t n k : Nat} {st : List LObj} (hj : k = M.length) (hk : 0 < M.length) :
    opStep noCall [] st (.slice 1 (.const (.sl (bs M) t n)) none (some (.const (.p (.int .i64 ((k : Nat) : Int))))) none) = some (.sl (bs M) t n, st) := by
  subst hj
  have h0 : M ≠ [] := by intro h; subst h; simp at hk
  simp [opStep, LX.ev, rslice, LV.asSl, bs_all, lslice, bnd, bs_len, hk, h0]

theorem ofNat8_inj {a b : Nat} (ha : a < 256) (hb : b < 256) (h : UInt8.ofNat a = UInt8.ofNat b) : a = b := by
  have := congrArg UInt8.toNat h
  simp [UInt8.toNat_ofNat'] at this
  omega

theorem vcode_pos (u : Nat) : 0 < (vcode u).length := by rw [vcode]; split <;> simp

theorem vcode_lo {u : Nat} (h : u < 128) : vcode u = [UInt8.ofNat u] := by rw [vcode, if_pos h]
theorem vcode_hi {u : Nat} (h : ¬ u < 128) : vcode u = UInt8.ofNat (u % 128 + 128) :: vcode (u / 128) := by rw [vcode, if_neg h]

/-- No number's code begins another one's. -/
theorem vcode_prefix : ∀ (u w : Nat), (vcode w).take (vcode u).length = vcode u → u = w := by
  intro u
  induction u using Nat.strongRecOn with
  | _ u ih =>
    intro w h
    by_cases hu : u < 128 <;> by_cases hw : w < 128
    · rw [vcode_lo hu, vcode_lo hw] at h
      simp only [List.length_cons, List.length_nil, List.take_succ_cons, List.cons.injEq] at h
      exact (ofNat8_inj (by omega) (by omega) h.1).symm
    · rw [vcode_lo hu, vcode_hi hw] at h
      simp only [List.length_cons, List.length_nil, List.take_succ_cons, List.cons.injEq] at h
      have := ofNat8_inj (by omega) (by omega) h.1
      omega
    · rw [vcode_hi hu, vcode_lo hw] at h
      have hp := vcode_pos (u / 128)
      simp only [List.length_cons, List.take_succ_cons, List.cons.injEq, List.take_nil] at h
      rw [← h.2] at hp
      simp at hp
    · rw [vcode_hi hu, vcode_hi hw] at h
      simp only [List.length_cons, List.take_succ_cons, List.cons.injEq] at h
      have h1 := ofNat8_inj (by omega) (by omega) h.1
      have h2 := ih (u / 128) (by omega) (w / 128) h.2
      omega

end Go.LS
namespace Go.LS
theorem opIs_idx {v : LV} {L : List UInt8} {i : Nat} {c : UInt8} {st : List LObj} (hv : v.asSl = some (bs L)) (hr : v.isRs = false) (h : L[i]? = some c) :
    opStep noCall [] st (.indexAddr 1 (.const v) (.const (.p (.int .i64 ((i : Nat) : Int))))) = some (.pin [.int .u8 c.toNat] 0, st) := by
  have hb : (bs L)[i]? = some [.int .u8 c.toNat] := by simp [bs, h]
  have h0 : ¬ ((i : Int) < 0) := by omega
  cases v <;> simp only [LV.isRs, Bool.true_eq_false] at hr <;> simp only [LV.asSl] at hv <;> first | (cases hv; done) | skip
  all_goals simp [opStep, LX.ev, LV.asInt, LV.asSl, hv, hb, h0]
end Go.LS
namespace Go.LS
theorem opIs_sliceFrom {M : List UInt8} {t n k : Nat} {st : List LObj} (hk : k < M.length) :
    opStep noCall [] st (.slice 1 (.const (.sl (bs M) t n)) (some (.const (.p (.int .i64 ((k : Nat) : Int))))) none none) = some (.sl (bs (M.drop k)) t n, st) := by
  have h1 : (k : Int) ≤ (M.length : Int) := by omega
  simp [opStep, LX.ev, rslice, LV.asSl, bs_all, lslice, bnd, bs_len, h1, hk, bs_drop]

theorem opIs_sliceEnd {M : List UInt8} {t n k : Nat} {st : List LObj} (hk : k = M.length) :
    opStep noCall [] st (.slice 1 (.const (.sl (bs M) t n)) (some (.const (.p (.int .i64 ((k : Nat) : Int))))) none none) = some (.p (.sl []), st) := by
  subst hk
  simp [opStep, LX.ev, rslice, LV.asSl, bs_all, lslice, bnd, bs_len]

theorem opIs_idxD {v : LV} {L : List UInt8} {i : Nat} {st : List LObj} (hv : v.asSl = some (bs L)) (hr : v.isRs = false) (h : i < L.length) :
    opStep noCall [] st (.indexAddr 1 (.const v) (.const (.p (.int .i64 ((i : Nat) : Int))))) = some (.pin [.int .u8 ((L.getD i 0).toNat : Int)] 0, st) := by
  rw [opIs_idx hv hr (c := L.getD i 0) (by simp [List.getD, h])]

theorem opIs_idxI {v : LV} {L : List UInt8} {i : Int} {st : List LObj} (hv : v.asSl = some (bs L)) (hr : v.isRs = false) (h0 : 0 ≤ i) (h : i < (L.length : Int)) :
    opStep noCall [] st (.indexAddr 1 (.const v) (.const (.p (.int .i64 i)))) = some (.pin [.int .u8 ((L.getD i.toNat 0).toNat : Int)] 0, st) := by
  obtain ⟨n, rfl⟩ := Int.eq_ofNat_of_zero_le h0
  exact opIs_idxD hv hr (by omega)

theorem bnd_some {y : Nat} {k : IntKind} {n : Int} {d : Nat} (h0 : 0 ≤ n) (h : n ≤ y) : bnd y (some (.p (.int k n))) d = some n.toNat := by simp [bnd, h0, h]
theorem opIs_slicePD {M : List UInt8} {k : IntKind} {lo : Int} {st : List LObj} (h0 : 0 ≤ lo) (h : lo ≤ (M.length : Int)) :
    opStep noCall [] st (.slice 1 (.const (.p (.sl (bs M)))) (some (.const (.p (.int k lo)))) none none) = some (.p (.sl (bs (M.drop lo.toNat))), st) := by
  have e : (bs M).take (bs M).length = bs M := List.take_length
  have e2 : (bs M).take M.length = bs M := by rw [← bs_len M]; exact e
  simp [opStep, LX.ev, rslice, LV.asSl, bs_all, lslice, bnd, bs_len, h0, h, bs_drop, e2]
theorem opIs_slicePT {M : List UInt8} {k : IntKind} {hi : Int} {st : List LObj} (h0 : 0 ≤ hi) (h : hi ≤ (M.length : Int)) :
    opStep noCall [] st (.slice 1 (.const (.p (.sl (bs M)))) none (some (.const (.p (.int k hi)))) none) = some (.p (.sl (bs (M.take hi.toNat))), st) := by
  simp [opStep, LX.ev, rslice, LV.asSl, bs_all, lslice, bnd, bs_len, h0, h, bs_take]
  split
  · rename_i v hv
    split at hv
    · rename_i h1
      cases hv
      rw [h1.1, ← bs_len M, List.take_length]
    · cases hv; rfl
  · rename_i hv; split at hv <;> cases hv
theorem opIs_sliceP2 {M : List UInt8} {k j : IntKind} {lo hi : Int} {st : List LObj} (h0 : 0 ≤ lo) (h1 : lo ≤ hi) (h : hi ≤ (M.length : Int)) :
    opStep noCall [] st (.slice 1 (.const (.p (.sl (bs M)))) (some (.const (.p (.int k lo)))) (some (.const (.p (.int j hi)))) none) = some (.p (.sl (bs ((M.take hi.toNat).drop lo.toNat))), st) := by
  have hh : 0 ≤ hi := by omega
  have hl : lo ≤ ((hi.toNat : Nat) : Int) := by omega
  have hl2 : lo ≤ max hi 0 := by omega
  simp [opStep, LX.ev, rslice, LV.asSl, bs_all, lslice, bnd, bs_len, h0, hh, hl, hl2, h, bs_take, bs_drop]
  split
  · rename_i v hv
    split at hv
    · rename_i h1
      cases hv
      rw [h1.1, ← bs_len M, List.take_length]
    · cases hv; rfl
  · rename_i hv; split at hv <;> cases hv
theorem opIs_sliceStrD {M : List UInt8} {k : IntKind} {lo : Int} {st : List LObj} (h0 : 0 ≤ lo) (h : lo ≤ (M.length : Int)) :
    opStep noCall [] st (.sslice (.const (.p (.str M))) (some (.const (.p (.int k lo)))) none none) = some (.p (.str (M.drop lo.toNat)), st) := by
  simp [opStep, LX.ev, lslice, bnd, h0, h]
theorem opIs_sliceStrT {M : List UInt8} {k : IntKind} {hi : Int} {st : List LObj} (h0 : 0 ≤ hi) (h : hi ≤ (M.length : Int)) :
    opStep noCall [] st (.sslice (.const (.p (.str M))) none (some (.const (.p (.int k hi)))) none) = some (.p (.str (M.take hi.toNat)), st) := by
  simp [opStep, LX.ev, lslice, bnd, h0, h]
theorem opIs_sliceStr2 {M : List UInt8} {k j : IntKind} {lo hi : Int} {st : List LObj} (h0 : 0 ≤ lo) (h1 : lo ≤ hi) (h : hi ≤ (M.length : Int)) :
    opStep noCall [] st (.sslice (.const (.p (.str M))) (some (.const (.p (.int k lo)))) (some (.const (.p (.int j hi)))) none) = some (.p (.str ((M.take hi.toNat).drop lo.toNat)), st) := by
  have hh : 0 ≤ hi := by omega
  have hl : lo ≤ ((hi.toNat : Nat) : Int) := by omega
  have hl2 : lo ≤ max hi 0 := by omega
  simp [opStep, LX.ev, lslice, bnd, h0, hh, hl, hl2, h]

theorem opIs_shl {k j : IntKind} {a b : Int} {st : List LObj} (h : 0 ≤ b) :
    opStep noCall [] st (.bin .shl (.const (.p (.int k a))) (.const (.p (.int j b)))) = some (.p (.int k (IntKind.wrap k (a * 2 ^ min (Int.toNat b) k.bits))), st) := by
  have h0 : ¬ b < 0 := by omega
  simp [opStep, LX.ev, lbin, h0]

theorem iteP {c : Prop} [Decidable c] {a b : Prop} (h : if c then a else b) (k : c) : a := by rwa [if_pos k] at h
theorem iteN {c : Prop} [Decidable c] {a b : Prop} (h : if c then a else b) (k : ¬ c) : b := by rwa [if_neg k] at h
theorem iteRP {lp : LProg} {f : FuncId} {args : List LV} {st : List LObj} {c : Prop} [Decidable c] {a b : LV × List LObj} (k : c) (h : Runs lp f args st a) : Runs lp f args st (if c then a else b) := by rwa [if_pos k]
theorem iteRN {lp : LProg} {f : FuncId} {args : List LV} {st : List LObj} {c : Prop} [Decidable c] {a b : LV × List LObj} (k : ¬ c) (h : Runs lp f args st b) : Runs lp f args st (if c then a else b) := by rwa [if_neg k]

theorem opIs_idxE {v : LV} {E : List (List PV)} {e : List PV} {z : Nat} {i : Nat} {st : List LObj} (hv : v.asSl = some E) (hr : v.isRs = false) (h : E[i]? = some e) (hz : e.length = z) :
    opStep noCall [] st (.indexAddr z (.const v) (.const (.p (.int .i64 ((i : Nat) : Int))))) = some (.pin e 0, st) := by
  have h0 : ¬ ((i : Int) < 0) := by omega
  cases v <;> simp only [LV.isRs, Bool.true_eq_false] at hr <;> simp only [LV.asSl] at hv <;> first | (cases hv; done) | skip
  all_goals simp [opStep, LX.ev, LV.asInt, LV.asSl, hv, h, h0, hz]

theorem wrap_u8_bs4 (a b c d : Int) : [[PV.int .u8 (IntKind.wrap .u8 a)], [PV.int .u8 (IntKind.wrap .u8 b)], [PV.int .u8 (IntKind.wrap .u8 c)], [PV.int .u8 (IntKind.wrap .u8 d)]] =
    bs [UInt8.ofNat (IntKind.wrap .u8 a).toNat, UInt8.ofNat (IntKind.wrap .u8 b).toNat, UInt8.ofNat (IntKind.wrap .u8 c).toNat, UInt8.ofNat (IntKind.wrap .u8 d).toNat] := by
  have h := wrap_u8_bs
  simp only [bs, List.map_cons, List.map_nil, List.cons.injEq, and_true] at h ⊢
  exact ⟨h a, h b, h c, h d⟩
end Go.LS

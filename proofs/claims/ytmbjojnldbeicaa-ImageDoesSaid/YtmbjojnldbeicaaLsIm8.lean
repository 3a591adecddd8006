import Derived.Test.YtmbjojnldbeicaaLsIm7
set_option linter.unusedVariables false
set_option linter.unusedSimpArgs false
set_option maxRecDepth 100000
namespace Go.Proofs.Ytmbjojnldbeicaa
open Go Go.LS
def nxS : Bool → Nat | true => 2 | false => 1
def stD (f : Bool) (kp b t : Int) (R L : List (Option Val)) : List LObj := mS f kp b t R ++ xS (nxS f + 1) kp b L
theorem Y6 {kp b t xb : Int} {R L : List (Option Val)} (h : Rel kp b t R xb L) (hL : Dw L) : (Az kp b t R).length ≤ 30 + 4097 * L.length := by
 obtain ⟨n1, n2, n3, n4, n5⟩ := h.nums
 unfold Az
 rw [h.ring]
 have l1 := Dn (n := kp) (by omega) (by omega)
 have l2 := Dn (n := b) (by omega) (by omega)
 have l3 := Dn (n := t) (by omega) (by omega)
 have l4 := Y4 (L := L.drop (frX kp xb L)) (fun v hv => hL v (List.mem_of_mem_drop hv))
 rw [List.length_drop] at l4
 simp only [List.length_append]
 omega
theorem Mm {kp b t xb : Int} {R L : List (Option Val)} (h : Rel kp b t R xb L) (hL : Dw L) (ht : t ≤ 1099511627776) :
  Runs lp 18 [.ptr 0 0 0] [.row [[.p (.sl (bs (Az kp b t R))), .p (.bool false)]]] (.ptr 1 0 0, [.row [[.p (.sl (bs [])), .p (.bool false)]], .row [[.p (.int .i64 kp), .rs 2 0 (Int.toNat kp), .p (.int .i64 b), .p (.int .i64 t)]], .row (Aa (rR (Az kp b t R, false)))]) := by
 have hl := Y6 h hL
 have hlm := h.bnd.l1
 have hp := pReadC (Az kp b t R, false) (by simp only; omega)
 obtain ⟨eK, eB, eT, eL, eS⟩ := Tv h hL ht
 rw [eS, if_neg (by decide), eK, eB, eT] at hp
 exact hp
theorem Mn {kp b t : Int} {R : List (Option Val)} : Runs lp 16 [.p (.sl (bs (Az kp b t R)))] [] (.ptr 0 0 0, [.row [[.p (.sl (bs (Az kp b t R))), .p (.bool false)]]]) := vfrom_p
theorem doAS {kp b i : Int} {ops : List OpI} {n : Nat} (ih : ∀ (j : Nat) (f : Bool) (L : List (Option Val)) (t : Int) (R : List (Option Val)), ops.length - j = n → j ≤ ops.length → (f = false → kp = (0 : Int) ∧ R = []) → Rel kp b t R b L → Dw L → Dw R → L.length ≤ j ∧ j ≤ 150 → A5 b L ≤ 1099511627776 →
   ∃ f2 L2 t2 R2, (f2 = false → kp = (0 : Int) ∧ R2 = []) ∧ Rel kp b t2 R2 b L2 ∧ LoopN lp 0 (Ae lf3 0) (tl 0 114 [(2, (.p (.sl (Ap ops)))), (3, .p (.int .i64 i)), (9, (.ptr 0 0 0)), (11, (.ptr (nxS f) 0 0)), (12, (.p (.int .i64 (j : Int))))]) (stD f kp b t R L) (.exit 0, (tl 0 114 [(3, .p (.int .i64 i)), (9, (.ptr 0 0 0)), (11, (.ptr (nxS f2) 0 0))]), stD f2 kp b t2 R2 L2))
  {j : Nat} {t : Int} {R : List (Option Val)} {a0 : Option Val} {q0 : List (Option Val)} (h1 : ops.length - j = n + 1) (h2 : j ≤ ops.length) (h : Rel kp b t R b (a0 :: q0)) (hL : Dw (a0 :: q0)) (hR : Dw R) (hj : ((a0 :: q0) : List (Option Val)).length ≤ j ∧ j < 150) (htp : A5 b (a0 :: q0) ≤ 1099511627776) {ok ke ne : Int} {se : List UInt8} {ise : List Val} {nse : List (List UInt8)} {bv : Bool} (hop : ops[j]? = some (OpI.mk ok (.mk ke ne se ise nse) bv)) (hov : okV (.mk ke ne se ise nse)) :
  ∃ f2 L2 t2 R2, (f2 = false → kp = (0 : Int) ∧ R2 = []) ∧ Rel kp b t2 R2 b L2 ∧ LoopN lp 0 (Ae lf3 0) (tl 0 114 [(2, (.p (.sl (Ap ops)))), (3, .p (.int .i64 i)), (9, (.ptr 0 0 0)), (11, (.ptr (nxS true) 0 0)), (12, (.p (.int .i64 (j : Int))))]) (stD true kp b t R (a0 :: q0)) (.exit 0, (tl 0 114 [(3, .p (.int .i64 i)), (9, (.ptr 0 0 0)), (11, (.ptr (nxS f2) 0 0))]), stD f2 kp b t2 R2 L2) := by
 obtain ⟨n1, n2, n3, n4, n5⟩ := h.nums
 have hlt : decide ((j : Int) < ((List.length (Ap ops) : Nat) : Int)) = true := by rw [Fi]; exact decide_eq_true (by omega)
 have h150 : decide ((j : Int) < 150) = true := decide_eq_true (by omega)
 have hl1 := h.bnd.l1
 have htt : t ≤ 1099511627776 := by rw [n3]; exact htp
 have hcode := pCodeC (kp := kp) (b := b) (t := t) (R := R) n1 h.inv.len hR ⟨n2.1, by have := h.inv.top; omega⟩ n5
 cases bv with
 | true =>
     cases ho : (ok == 1) with
     | false =>
      cases ho2 : (ok == 2) with
      | false =>
       cases ho3 : (ok == 3) with
       | false =>
        obtain ⟨f2, L2, t2, R2, x0, x1, x4⟩ := ih (j + 1) true (a0 :: q0) t R (by omega) (by omega) (fun h => by cases h) h hL hR (by omega) htp
        rw [← nx (by omega)] at x4
        exact ⟨f2, L2, t2, R2, x0, x1, Ta ok ke ne se ise nse hlt h150 hop ho ho2 ho3 x4⟩
       | true =>
        obtain ⟨hrb, hwb⟩ := F9 h hL htt
        obtain ⟨f2, L2, t2, R2, x0, x1, x4⟩ := ih (j + 1) true (a0 :: q0) t _ (by omega) (by omega) (fun h => by cases h) hrb hL hwb (by omega) htp
        rw [← nx (by omega)] at x4
        exact ⟨f2, L2, t2, R2, x0, x1, Q1 (L := a0 :: q0) (xv := ([], false)) ok ke ne se ise nse hlt h150 hop ho ho2 ho3 hcode Mn (Mm h hL htt) (by rfl) x4⟩
      | true =>
       by_cases hk0 : 0 < kp
       ·obtain ⟨f2, L2, t2, R2, x0, x1, x4⟩ := ih (j + 1) true (a0 :: q0) t R (by omega) (by omega) (fun h => by cases h) h hL hR (by omega) htp
        rw [← nx (by omega)] at x4
        exact ⟨f2, L2, t2, R2, x0, x1, Vo (L := a0 :: q0) ok ke ne se ise nse hlt h150 hop ho ho2 (Xj (M6 h.inv.len hk0 n1.2)) (Gb n1.2 ⟨n4, n5⟩ h.okr) x4⟩
       ·obtain rfl : kp = 0 := by omega
        have hR0 : R = [] := List.length_eq_zero_iff.1 h.inv.len
        have h' := h
        rw [hR0] at h'
        obtain ⟨f2, L2, t2, R2, x0, x1, x4⟩ := ih (j + 1) false (a0 :: q0) t [] (by omega) (by omega) (fun _ => ⟨rfl, rfl⟩) h' hL (fun v hv => by cases hv) (by omega) htp
        rw [← nx (by omega)] at x4
        exact ⟨f2, L2, t2, R2, x0, x1, V3 (L := a0 :: q0) ok ke ne se ise nse hlt h150 hop ho ho2 (Xk (clR0 h.inv.len)) (Gb n1.2 ⟨n4, n5⟩ h.okr) x4⟩
     | true =>
      cases hlg : Bc (.mk ke ne se ise nse) with
      | true =>
       obtain ⟨f2, L2, t2, R2, x0, x1, x4⟩ := ih (j + 1) true (a0 :: q0) t R (by omega) (by omega) (fun h => by cases h) h hL hR (by omega) htp
       rw [← nx (by omega)] at x4
       exact ⟨f2, L2, t2, R2, x0, x1, Vn ok ke ne se ise nse hlt h150 hop ho (Cp _ hov) hlg x4⟩
      | false =>
       have hdp := Ga hov hlg
       by_cases htop : A5 b (a0 :: q0) ≥ 1099511627776
       ·have hto : decide (A5 b (a0 :: q0) ≥ 1099511627776) = true := decide_eq_true htop
        obtain ⟨f2, L2, t2, R2, x0, x1, x4⟩ := ih (j + 1) true (a0 :: q0) t R (by omega) (by omega) (fun h => by cases h) h hL hR (by omega) htp
        rw [← nx (by omega)] at x4
        exact ⟨f2, L2, t2, R2, x0, x1, S9 (L := a0 :: q0) ok ke ne se ise nse hlt h150 hop ho (Cp _ hov) hlg (C2 h.bnd) hto x4⟩
       ·have hto : decide (A5 b (a0 :: q0) ≥ 1099511627776) = false := decide_eq_false htop
        have hm := Xe (b := b) hov hdp n1.2 ⟨n4, n5⟩ h.okr
        have hck := Qj _ hov hdp
        have hx := Xh (L := a0 :: q0) (kp := kp) (xb := b) (k := ke) (n := ne) (s := se) (is := ise) (ns := nse) hck (fun _ => by simp) (fun _ => by omega) (fun _ => by omega)
        cases hc : (Bp (.mk ke ne se ise nse) == 0) with
        | true =>
         have hw := Rf hov hlg (eq_of_beq hc)
         have hnt := h.note (x := some (.mk ke ne se ise nse)) (fun v e => by cases e; exact hw) (by omega)
         obtain ⟨f2, L2, t2, R2, x0, x1, x4⟩ := ih (j + 1) true ((a0 :: q0) ++ [some (.mk ke ne se ise nse)]) (t + 1) (Bj kp t R (some (.mk ke ne se ise nse))) (by omega) (by omega) (fun h => by cases h) hnt (E4 hL (fun v e => by cases e; exact hw)) (Ig hR (fun v e => by cases e; exact hw)) (by simp only [List.length_append, List.length_singleton]; omega) (by simp only [A5, List.length_append, List.length_singleton] at *; omega)
         rw [← nx (by omega)] at x4
         rw [hc, if_pos rfl] at hm hx
         exact ⟨f2, L2, t2, R2, x0, x1, Qz (L := a0 :: q0) ok ke ne se ise nse hlt h150 hop ho (Cp _ hov) hlg (C2 h.bnd) hto hc hm hx x4⟩
        | false =>
         obtain ⟨f2, L2, t2, R2, x0, x1, x4⟩ := ih (j + 1) true (a0 :: q0) t R (by omega) (by omega) (fun h => by cases h) h hL hR (by omega) htp
         rw [← nx (by omega)] at x4
         rw [hc, if_neg (by decide)] at hm hx
         exact ⟨f2, L2, t2, R2, x0, x1, Q0 (L := a0 :: q0) ok ke ne se ise nse hlt h150 hop ho (Cp _ hov) hlg (C2 h.bnd) hto hc hm hx x4⟩
 | false =>
     cases ho : (ok == 1) with
     | false =>
      cases ho2 : (ok == 2) with
      | false =>
       cases ho3 : (ok == 3) with
       | false =>
        obtain ⟨f2, L2, t2, R2, x0, x1, x4⟩ := ih (j + 1) true (a0 :: q0) t R (by omega) (by omega) (fun h => by cases h) h hL hR (by omega) htp
        rw [← nx (by omega)] at x4
        exact ⟨f2, L2, t2, R2, x0, x1, Td ok ke ne se ise nse hlt h150 hop ho ho2 ho3 x4⟩
       | true =>
        obtain ⟨hrb, hwb⟩ := F9 h hL htt
        obtain ⟨f2, L2, t2, R2, x0, x1, x4⟩ := ih (j + 1) true (a0 :: q0) t _ (by omega) (by omega) (fun h => by cases h) hrb hL hwb (by omega) htp
        rw [← nx (by omega)] at x4
        exact ⟨f2, L2, t2, R2, x0, x1, Q2 (L := a0 :: q0) (xv := ([], false)) ok ke ne se ise nse hlt h150 hop ho ho2 ho3 hcode Mn (Mm h hL htt) (by rfl) x4⟩
      | true =>
       by_cases hk0 : 0 < kp
       ·obtain ⟨f2, L2, t2, R2, x0, x1, x4⟩ := ih (j + 1) true (a0 :: q0) t R (by omega) (by omega) (fun h => by cases h) h hL hR (by omega) htp
        rw [← nx (by omega)] at x4
        exact ⟨f2, L2, t2, R2, x0, x1, Vq (L := a0 :: q0) ok ke ne se ise nse hlt h150 hop ho ho2 (Xj (M6 h.inv.len hk0 n1.2)) (Gb n1.2 ⟨n4, n5⟩ h.okr) x4⟩
       ·obtain rfl : kp = 0 := by omega
        have hR0 : R = [] := List.length_eq_zero_iff.1 h.inv.len
        have h' := h
        rw [hR0] at h'
        obtain ⟨f2, L2, t2, R2, x0, x1, x4⟩ := ih (j + 1) false (a0 :: q0) t [] (by omega) (by omega) (fun _ => ⟨rfl, rfl⟩) h' hL (fun v hv => by cases hv) (by omega) htp
        rw [← nx (by omega)] at x4
        exact ⟨f2, L2, t2, R2, x0, x1, V4 (L := a0 :: q0) ok ke ne se ise nse hlt h150 hop ho ho2 (Xk (clR0 h.inv.len)) (Gb n1.2 ⟨n4, n5⟩ h.okr) x4⟩
     | true =>
      cases hlg : Bc (.mk ke ne se ise nse) with
      | true =>
       obtain ⟨f2, L2, t2, R2, x0, x1, x4⟩ := ih (j + 1) true (a0 :: q0) t R (by omega) (by omega) (fun h => by cases h) h hL hR (by omega) htp
       rw [← nx (by omega)] at x4
       exact ⟨f2, L2, t2, R2, x0, x1, Vp ok ke ne se ise nse hlt h150 hop ho (Cp _ hov) hlg x4⟩
      | false =>
       have hdp := Ga hov hlg
       by_cases htop : A5 b (a0 :: q0) ≥ 1099511627776
       ·have hto : decide (A5 b (a0 :: q0) ≥ 1099511627776) = true := decide_eq_true htop
        obtain ⟨f2, L2, t2, R2, x0, x1, x4⟩ := ih (j + 1) true (a0 :: q0) t R (by omega) (by omega) (fun h => by cases h) h hL hR (by omega) htp
        rw [← nx (by omega)] at x4
        exact ⟨f2, L2, t2, R2, x0, x1, Tb (L := a0 :: q0) ok ke ne se ise nse hlt h150 hop ho (Cp _ hov) hlg (C2 h.bnd) hto x4⟩
       ·have hto : decide (A5 b (a0 :: q0) ≥ 1099511627776) = false := decide_eq_false htop
        have hm := Ve (b := b) (v := .mk ke ne se ise nse) n1.2 ⟨n4, n5⟩ h.okr
        have hx := Xi (L := a0 :: q0) (kp := kp) (xb := b) (k := ke) (n := ne) (s := se) (is := ise) (ns := nse) (by simp) (by omega) (by omega)
        have hnt := h.note (x := none) (fun v e => by cases e) (by omega)
        obtain ⟨f2, L2, t2, R2, x0, x1, x4⟩ := ih (j + 1) true ((a0 :: q0) ++ [none]) (t + 1) (Bj kp t R none) (by omega) (by omega) (fun h => by cases h) hnt (E4 hL (fun v e => by cases e)) (Ig hR (fun v e => by cases e)) (by simp only [List.length_append, List.length_singleton]; omega) (by simp only [A5, List.length_append, List.length_singleton] at *; omega)
        rw [← nx (by omega)] at x4
        exact ⟨f2, L2, t2, R2, x0, x1, Tc (L := a0 :: q0) ok ke ne se ise nse hlt h150 hop ho (Cp _ hov) hlg (C2 h.bnd) hto hm hx x4⟩
theorem doBS {kp b i : Int} {ops : List OpI} {n : Nat} (ih : ∀ (j : Nat) (f : Bool) (L : List (Option Val)) (t : Int) (R : List (Option Val)), ops.length - j = n → j ≤ ops.length → (f = false → kp = (0 : Int) ∧ R = []) → Rel kp b t R b L → Dw L → Dw R → L.length ≤ j ∧ j ≤ 150 → A5 b L ≤ 1099511627776 →
   ∃ f2 L2 t2 R2, (f2 = false → kp = (0 : Int) ∧ R2 = []) ∧ Rel kp b t2 R2 b L2 ∧ LoopN lp 0 (Ae lf3 0) (tl 0 114 [(2, (.p (.sl (Ap ops)))), (3, .p (.int .i64 i)), (9, (.ptr 0 0 0)), (11, (.ptr (nxS f) 0 0)), (12, (.p (.int .i64 (j : Int))))]) (stD f kp b t R L) (.exit 0, (tl 0 114 [(3, .p (.int .i64 i)), (9, (.ptr 0 0 0)), (11, (.ptr (nxS f2) 0 0))]), stD f2 kp b t2 R2 L2))
  {j : Nat} {t : Int} {R : List (Option Val)} (h1 : ops.length - j = n + 1) (h2 : j ≤ ops.length) (h : Rel kp b t R b []) (hL : Dw []) (hR : Dw R) (hj : ([] : List (Option Val)).length ≤ j ∧ j < 150) (htp : A5 b [] ≤ 1099511627776) {ok ke ne : Int} {se : List UInt8} {ise : List Val} {nse : List (List UInt8)} {bv : Bool} (hop : ops[j]? = some (OpI.mk ok (.mk ke ne se ise nse) bv)) (hov : okV (.mk ke ne se ise nse)) :
  ∃ f2 L2 t2 R2, (f2 = false → kp = (0 : Int) ∧ R2 = []) ∧ Rel kp b t2 R2 b L2 ∧ LoopN lp 0 (Ae lf3 0) (tl 0 114 [(2, (.p (.sl (Ap ops)))), (3, .p (.int .i64 i)), (9, (.ptr 0 0 0)), (11, (.ptr (nxS true) 0 0)), (12, (.p (.int .i64 (j : Int))))]) (stD true kp b t R []) (.exit 0, (tl 0 114 [(3, .p (.int .i64 i)), (9, (.ptr 0 0 0)), (11, (.ptr (nxS f2) 0 0))]), stD f2 kp b t2 R2 L2) := by
 obtain ⟨n1, n2, n3, n4, n5⟩ := h.nums
 have hlt : decide ((j : Int) < ((List.length (Ap ops) : Nat) : Int)) = true := by rw [Fi]; exact decide_eq_true (by omega)
 have h150 : decide ((j : Int) < 150) = true := decide_eq_true (by omega)
 have hl1 := h.bnd.l1
 have htt : t ≤ 1099511627776 := by rw [n3]; exact htp
 have hcode := pCodeC (kp := kp) (b := b) (t := t) (R := R) n1 h.inv.len hR ⟨n2.1, by have := h.inv.top; omega⟩ n5
 cases bv with
 | true =>
     cases ho : (ok == 1) with
     | false =>
      cases ho2 : (ok == 2) with
      | false =>
       cases ho3 : (ok == 3) with
       | false =>
        obtain ⟨f2, L2, t2, R2, x0, x1, x4⟩ := ih (j + 1) true [] t R (by omega) (by omega) (fun h => by cases h) h hL hR (by omega) htp
        rw [← nx (by omega)] at x4
        exact ⟨f2, L2, t2, R2, x0, x1, Tf ok ke ne se ise nse hlt h150 hop ho ho2 ho3 x4⟩
       | true =>
        obtain ⟨hrb, hwb⟩ := F9 h hL htt
        obtain ⟨f2, L2, t2, R2, x0, x1, x4⟩ := ih (j + 1) true [] t _ (by omega) (by omega) (fun h => by cases h) hrb hL hwb (by omega) htp
        rw [← nx (by omega)] at x4
        exact ⟨f2, L2, t2, R2, x0, x1, Q5 (xv := ([], false)) ok ke ne se ise nse hlt h150 hop ho ho2 ho3 hcode Mn (Mm h hL htt) (by rfl) x4⟩
      | true =>
       by_cases hk0 : 0 < kp
       ·obtain ⟨f2, L2, t2, R2, x0, x1, x4⟩ := ih (j + 1) true [] t R (by omega) (by omega) (fun h => by cases h) h hL hR (by omega) htp
        rw [← nx (by omega)] at x4
        exact ⟨f2, L2, t2, R2, x0, x1, Vs ok ke ne se ise nse hlt h150 hop ho ho2 (Xj (M6 h.inv.len hk0 n1.2)) (Gb n1.2 ⟨n4, n5⟩ h.okr) x4⟩
       ·obtain rfl : kp = 0 := by omega
        have hR0 : R = [] := List.length_eq_zero_iff.1 h.inv.len
        have h' := h
        rw [hR0] at h'
        obtain ⟨f2, L2, t2, R2, x0, x1, x4⟩ := ih (j + 1) false [] t [] (by omega) (by omega) (fun _ => ⟨rfl, rfl⟩) h' hL (fun v hv => by cases hv) (by omega) htp
        rw [← nx (by omega)] at x4
        exact ⟨f2, L2, t2, R2, x0, x1, V5 ok ke ne se ise nse hlt h150 hop ho ho2 (Xk (clR0 h.inv.len)) (Gb n1.2 ⟨n4, n5⟩ h.okr) x4⟩
     | true =>
      cases hlg : Bc (.mk ke ne se ise nse) with
      | true =>
       obtain ⟨f2, L2, t2, R2, x0, x1, x4⟩ := ih (j + 1) true [] t R (by omega) (by omega) (fun h => by cases h) h hL hR (by omega) htp
       rw [← nx (by omega)] at x4
       exact ⟨f2, L2, t2, R2, x0, x1, Vr ok ke ne se ise nse hlt h150 hop ho (Cp _ hov) hlg x4⟩
      | false =>
       have hdp := Ga hov hlg
       by_cases htop : A5 b [] ≥ 1099511627776
       ·have hto : decide (A5 b ([] : List (Option Val)) ≥ 1099511627776) = true := decide_eq_true htop
        obtain ⟨f2, L2, t2, R2, x0, x1, x4⟩ := ih (j + 1) true [] t R (by omega) (by omega) (fun h => by cases h) h hL hR (by omega) htp
        rw [← nx (by omega)] at x4
        exact ⟨f2, L2, t2, R2, x0, x1, Te ok ke ne se ise nse hlt h150 hop ho (Cp _ hov) hlg (C2 h.bnd) hto x4⟩
       ·have hto : decide (A5 b ([] : List (Option Val)) ≥ 1099511627776) = false := decide_eq_false htop
        have hm := Xe (b := b) hov hdp n1.2 ⟨n4, n5⟩ h.okr
        have hck := Qj _ hov hdp
        have hx := Xf (kp := kp) (xb := b) (k := ke) (n := ne) (s := se) (is := ise) (ns := nse) hck
        cases hc : (Bp (.mk ke ne se ise nse) == 0) with
        | true =>
         have hw := Rf hov hlg (eq_of_beq hc)
         have hnt := h.note (x := some (.mk ke ne se ise nse)) (fun v e => by cases e; exact hw) (by omega)
         obtain ⟨f2, L2, t2, R2, x0, x1, x4⟩ := ih (j + 1) true ([] ++ [some (.mk ke ne se ise nse)]) (t + 1) (Bj kp t R (some (.mk ke ne se ise nse))) (by omega) (by omega) (fun h => by cases h) hnt (E4 hL (fun v e => by cases e; exact hw)) (Ig hR (fun v e => by cases e; exact hw)) (by simp only [List.length_append, List.length_singleton]; omega) (by simp only [A5, List.length_append, List.length_singleton] at *; omega)
         rw [← nx (by omega)] at x4
         rw [hc, if_pos rfl] at hm hx
         exact ⟨f2, L2, t2, R2, x0, x1, Q3 ok ke ne se ise nse hlt h150 hop ho (Cp _ hov) hlg (C2 h.bnd) hto hc hm hx x4⟩
        | false =>
         obtain ⟨f2, L2, t2, R2, x0, x1, x4⟩ := ih (j + 1) true [] t R (by omega) (by omega) (fun h => by cases h) h hL hR (by omega) htp
         rw [← nx (by omega)] at x4
         rw [hc, if_neg (by decide)] at hm hx
         exact ⟨f2, L2, t2, R2, x0, x1, Q4 ok ke ne se ise nse hlt h150 hop ho (Cp _ hov) hlg (C2 h.bnd) hto hc hm hx x4⟩
 | false =>
     cases ho : (ok == 1) with
     | false =>
      cases ho2 : (ok == 2) with
      | false =>
       cases ho3 : (ok == 3) with
       | false =>
        obtain ⟨f2, L2, t2, R2, x0, x1, x4⟩ := ih (j + 1) true [] t R (by omega) (by omega) (fun h => by cases h) h hL hR (by omega) htp
        rw [← nx (by omega)] at x4
        exact ⟨f2, L2, t2, R2, x0, x1, Ti ok ke ne se ise nse hlt h150 hop ho ho2 ho3 x4⟩
       | true =>
        obtain ⟨hrb, hwb⟩ := F9 h hL htt
        obtain ⟨f2, L2, t2, R2, x0, x1, x4⟩ := ih (j + 1) true [] t _ (by omega) (by omega) (fun h => by cases h) hrb hL hwb (by omega) htp
        rw [← nx (by omega)] at x4
        exact ⟨f2, L2, t2, R2, x0, x1, Q6 (xv := ([], false)) ok ke ne se ise nse hlt h150 hop ho ho2 ho3 hcode Mn (Mm h hL htt) (by rfl) x4⟩
      | true =>
       by_cases hk0 : 0 < kp
       ·obtain ⟨f2, L2, t2, R2, x0, x1, x4⟩ := ih (j + 1) true [] t R (by omega) (by omega) (fun h => by cases h) h hL hR (by omega) htp
        rw [← nx (by omega)] at x4
        exact ⟨f2, L2, t2, R2, x0, x1, Vu ok ke ne se ise nse hlt h150 hop ho ho2 (Xj (M6 h.inv.len hk0 n1.2)) (Gb n1.2 ⟨n4, n5⟩ h.okr) x4⟩
       ·obtain rfl : kp = 0 := by omega
        have hR0 : R = [] := List.length_eq_zero_iff.1 h.inv.len
        have h' := h
        rw [hR0] at h'
        obtain ⟨f2, L2, t2, R2, x0, x1, x4⟩ := ih (j + 1) false [] t [] (by omega) (by omega) (fun _ => ⟨rfl, rfl⟩) h' hL (fun v hv => by cases hv) (by omega) htp
        rw [← nx (by omega)] at x4
        exact ⟨f2, L2, t2, R2, x0, x1, V6 ok ke ne se ise nse hlt h150 hop ho ho2 (Xk (clR0 h.inv.len)) (Gb n1.2 ⟨n4, n5⟩ h.okr) x4⟩
     | true =>
      cases hlg : Bc (.mk ke ne se ise nse) with
      | true =>
       obtain ⟨f2, L2, t2, R2, x0, x1, x4⟩ := ih (j + 1) true [] t R (by omega) (by omega) (fun h => by cases h) h hL hR (by omega) htp
       rw [← nx (by omega)] at x4
       exact ⟨f2, L2, t2, R2, x0, x1, Vt ok ke ne se ise nse hlt h150 hop ho (Cp _ hov) hlg x4⟩
      | false =>
       have hdp := Ga hov hlg
       by_cases htop : A5 b [] ≥ 1099511627776
       ·have hto : decide (A5 b ([] : List (Option Val)) ≥ 1099511627776) = true := decide_eq_true htop
        obtain ⟨f2, L2, t2, R2, x0, x1, x4⟩ := ih (j + 1) true [] t R (by omega) (by omega) (fun h => by cases h) h hL hR (by omega) htp
        rw [← nx (by omega)] at x4
        exact ⟨f2, L2, t2, R2, x0, x1, Tg ok ke ne se ise nse hlt h150 hop ho (Cp _ hov) hlg (C2 h.bnd) hto x4⟩
       ·have hto : decide (A5 b ([] : List (Option Val)) ≥ 1099511627776) = false := decide_eq_false htop
        have hm := Ve (b := b) (v := .mk ke ne se ise nse) n1.2 ⟨n4, n5⟩ h.okr
        have hx := Xg (kp := kp) (xb := b) (k := ke) (n := ne) (s := se) (is := ise) (ns := nse)
        have hnt := h.note (x := none) (fun v e => by cases e) (by omega)
        obtain ⟨f2, L2, t2, R2, x0, x1, x4⟩ := ih (j + 1) true ([] ++ [none]) (t + 1) (Bj kp t R none) (by omega) (by omega) (fun h => by cases h) hnt (E4 hL (fun v e => by cases e)) (Ig hR (fun v e => by cases e)) (by simp only [List.length_append, List.length_singleton]; omega) (by simp only [A5, List.length_append, List.length_singleton] at *; omega)
        rw [← nx (by omega)] at x4
        exact ⟨f2, L2, t2, R2, x0, x1, Th ok ke ne se ise nse hlt h150 hop ho (Cp _ hov) hlg (C2 h.bnd) hto hm hx x4⟩
theorem doCS {b i : Int} {ops : List OpI} {n : Nat} (ih : ∀ (j : Nat) (f : Bool) (L : List (Option Val)) (t : Int) (R : List (Option Val)), ops.length - j = n → j ≤ ops.length → (f = false → 0 = (0 : Int) ∧ R = []) → Rel 0 b t R b L → Dw L → Dw R → L.length ≤ j ∧ j ≤ 150 → A5 b L ≤ 1099511627776 →
   ∃ f2 L2 t2 R2, (f2 = false → 0 = (0 : Int) ∧ R2 = []) ∧ Rel 0 b t2 R2 b L2 ∧ LoopN lp 0 (Ae lf3 0) (tl 0 114 [(2, (.p (.sl (Ap ops)))), (3, .p (.int .i64 i)), (9, (.ptr 0 0 0)), (11, (.ptr (nxS f) 0 0)), (12, (.p (.int .i64 (j : Int))))]) (stD f 0 b t R L) (.exit 0, (tl 0 114 [(3, .p (.int .i64 i)), (9, (.ptr 0 0 0)), (11, (.ptr (nxS f2) 0 0))]), stD f2 0 b t2 R2 L2))
  {j : Nat} {t : Int} {R : List (Option Val)} {a0 : Option Val} {q0 : List (Option Val)} (h1 : ops.length - j = n + 1) (h2 : j ≤ ops.length) (h : Rel 0 b t [] b (a0 :: q0)) (hL : Dw (a0 :: q0)) (hR : Dw []) (hj : ((a0 :: q0) : List (Option Val)).length ≤ j ∧ j < 150) (htp : A5 b (a0 :: q0) ≤ 1099511627776) {ok ke ne : Int} {se : List UInt8} {ise : List Val} {nse : List (List UInt8)} {bv : Bool} (hop : ops[j]? = some (OpI.mk ok (.mk ke ne se ise nse) bv)) (hov : okV (.mk ke ne se ise nse)) :
  ∃ f2 L2 t2 R2, (f2 = false → 0 = (0 : Int) ∧ R2 = []) ∧ Rel 0 b t2 R2 b L2 ∧ LoopN lp 0 (Ae lf3 0) (tl 0 114 [(2, (.p (.sl (Ap ops)))), (3, .p (.int .i64 i)), (9, (.ptr 0 0 0)), (11, (.ptr (nxS false) 0 0)), (12, (.p (.int .i64 (j : Int))))]) (stD false 0 b t [] (a0 :: q0)) (.exit 0, (tl 0 114 [(3, .p (.int .i64 i)), (9, (.ptr 0 0 0)), (11, (.ptr (nxS f2) 0 0))]), stD f2 0 b t2 R2 L2) := by
 obtain ⟨n1, n2, n3, n4, n5⟩ := h.nums
 have hlt : decide ((j : Int) < ((List.length (Ap ops) : Nat) : Int)) = true := by rw [Fi]; exact decide_eq_true (by omega)
 have h150 : decide ((j : Int) < 150) = true := decide_eq_true (by omega)
 have hl1 := h.bnd.l1
 have htt : t ≤ 1099511627776 := by rw [n3]; exact htp
 have hcode := pCodeZ (b := b) (t := t) ⟨n2.1, by have := h.inv.top; omega⟩ n5
 cases bv with
 | true =>
     cases ho : (ok == 1) with
     | false =>
      cases ho2 : (ok == 2) with
      | false =>
       cases ho3 : (ok == 3) with
       | false =>
        obtain ⟨f2, L2, t2, R2, x0, x1, x4⟩ := ih (j + 1) false (a0 :: q0) t [] (by omega) (by omega) (fun _ => ⟨rfl, rfl⟩) h hL hR (by omega) htp
        rw [← nx (by omega)] at x4
        exact ⟨f2, L2, t2, R2, x0, x1, Tk ok ke ne se ise nse hlt h150 hop ho ho2 ho3 x4⟩
       | true =>
        obtain ⟨hrb, hwb⟩ := F9 h hL htt
        obtain ⟨f2, L2, t2, R2, x0, x1, x4⟩ := ih (j + 1) true (a0 :: q0) t _ (by omega) (by omega) (fun h => by cases h) hrb hL hwb (by omega) htp
        rw [← nx (by omega)] at x4
        exact ⟨f2, L2, t2, R2, x0, x1, Q9 (L := a0 :: q0) (xv := ([], false)) ok ke ne se ise nse hlt h150 hop ho ho2 ho3 hcode Mn (Mm h hL htt) (by rfl) x4⟩
      | true =>
       obtain ⟨f2, L2, t2, R2, x0, x1, x4⟩ := ih (j + 1) false (a0 :: q0) t [] (by omega) (by omega) (fun _ => ⟨rfl, rfl⟩) h hL hR (by omega) htp
       rw [← nx (by omega)] at x4
       exact ⟨f2, L2, t2, R2, x0, x1, Vw (L := a0 :: q0) ok ke ne se ise nse hlt h150 hop ho ho2 Xl (Gz (k := 0) (n := 0) (s := []) (is := []) (ns := []) ⟨n4, n5⟩) x4⟩
     | true =>
      cases hlg : Bc (.mk ke ne se ise nse) with
      | true =>
       obtain ⟨f2, L2, t2, R2, x0, x1, x4⟩ := ih (j + 1) false (a0 :: q0) t [] (by omega) (by omega) (fun _ => ⟨rfl, rfl⟩) h hL hR (by omega) htp
       rw [← nx (by omega)] at x4
       exact ⟨f2, L2, t2, R2, x0, x1, Vv ok ke ne se ise nse hlt h150 hop ho (Cp _ hov) hlg x4⟩
      | false =>
       have hdp := Ga hov hlg
       by_cases htop : A5 b (a0 :: q0) ≥ 1099511627776
       ·have hto : decide (A5 b (a0 :: q0) ≥ 1099511627776) = true := decide_eq_true htop
        obtain ⟨f2, L2, t2, R2, x0, x1, x4⟩ := ih (j + 1) false (a0 :: q0) t [] (by omega) (by omega) (fun _ => ⟨rfl, rfl⟩) h hL hR (by omega) htp
        rw [← nx (by omega)] at x4
        exact ⟨f2, L2, t2, R2, x0, x1, Tj (L := a0 :: q0) ok ke ne se ise nse hlt h150 hop ho (Cp _ hov) hlg (C2 h.bnd) hto x4⟩
       ·have hto : decide (A5 b (a0 :: q0) ≥ 1099511627776) = false := decide_eq_false htop
        have hm := Pt (b := b) (t := t) hov hdp ⟨n4, n5⟩
        have hck := Qj _ hov hdp
        have hx := Xh (L := a0 :: q0) (kp := 0) (xb := b) (k := ke) (n := ne) (s := se) (is := ise) (ns := nse) hck (fun _ => by simp) (fun _ => by omega) (fun _ => by omega)
        cases hc : (Bp (.mk ke ne se ise nse) == 0) with
        | true =>
         have hw := Rf hov hlg (eq_of_beq hc)
         have hnt := h.note (x := some (.mk ke ne se ise nse)) (fun v e => by cases e; exact hw) (by omega)
         rw [show Bj 0 t [] (some (Val.mk ke ne se ise nse)) = [] from rfl] at hnt
         obtain ⟨f2, L2, t2, R2, x0, x1, x4⟩ := ih (j + 1) false ((a0 :: q0) ++ [some (.mk ke ne se ise nse)]) (t + 1) [] (by omega) (by omega) (fun _ => ⟨rfl, rfl⟩) hnt (E4 hL (fun v e => by cases e; exact hw)) hR (by simp only [List.length_append, List.length_singleton]; omega) (by simp only [A5, List.length_append, List.length_singleton] at *; omega)
         rw [← nx (by omega)] at x4
         rw [hc, if_pos rfl] at hm hx
         exact ⟨f2, L2, t2, R2, x0, x1, Q7 (L := a0 :: q0) ok ke ne se ise nse hlt h150 hop ho (Cp _ hov) hlg (C2 h.bnd) hto hc hm hx x4⟩
        | false =>
         obtain ⟨f2, L2, t2, R2, x0, x1, x4⟩ := ih (j + 1) false (a0 :: q0) t [] (by omega) (by omega) (fun _ => ⟨rfl, rfl⟩) h hL hR (by omega) htp
         rw [← nx (by omega)] at x4
         rw [hc, if_neg (by decide)] at hm hx
         exact ⟨f2, L2, t2, R2, x0, x1, Q8 (L := a0 :: q0) ok ke ne se ise nse hlt h150 hop ho (Cp _ hov) hlg (C2 h.bnd) hto hc hm hx x4⟩
 | false =>
     cases ho : (ok == 1) with
     | false =>
      cases ho2 : (ok == 2) with
      | false =>
       cases ho3 : (ok == 3) with
       | false =>
        obtain ⟨f2, L2, t2, R2, x0, x1, x4⟩ := ih (j + 1) false (a0 :: q0) t [] (by omega) (by omega) (fun _ => ⟨rfl, rfl⟩) h hL hR (by omega) htp
        rw [← nx (by omega)] at x4
        exact ⟨f2, L2, t2, R2, x0, x1, Tn ok ke ne se ise nse hlt h150 hop ho ho2 ho3 x4⟩
       | true =>
        obtain ⟨hrb, hwb⟩ := F9 h hL htt
        obtain ⟨f2, L2, t2, R2, x0, x1, x4⟩ := ih (j + 1) true (a0 :: q0) t _ (by omega) (by omega) (fun h => by cases h) hrb hL hwb (by omega) htp
        rw [← nx (by omega)] at x4
        exact ⟨f2, L2, t2, R2, x0, x1, Ra (L := a0 :: q0) (xv := ([], false)) ok ke ne se ise nse hlt h150 hop ho ho2 ho3 hcode Mn (Mm h hL htt) (by rfl) x4⟩
      | true =>
       obtain ⟨f2, L2, t2, R2, x0, x1, x4⟩ := ih (j + 1) false (a0 :: q0) t [] (by omega) (by omega) (fun _ => ⟨rfl, rfl⟩) h hL hR (by omega) htp
       rw [← nx (by omega)] at x4
       exact ⟨f2, L2, t2, R2, x0, x1, Vy (L := a0 :: q0) ok ke ne se ise nse hlt h150 hop ho ho2 Xl (Gz (k := 0) (n := 0) (s := []) (is := []) (ns := []) ⟨n4, n5⟩) x4⟩
     | true =>
      cases hlg : Bc (.mk ke ne se ise nse) with
      | true =>
       obtain ⟨f2, L2, t2, R2, x0, x1, x4⟩ := ih (j + 1) false (a0 :: q0) t [] (by omega) (by omega) (fun _ => ⟨rfl, rfl⟩) h hL hR (by omega) htp
       rw [← nx (by omega)] at x4
       exact ⟨f2, L2, t2, R2, x0, x1, Vx ok ke ne se ise nse hlt h150 hop ho (Cp _ hov) hlg x4⟩
      | false =>
       have hdp := Ga hov hlg
       by_cases htop : A5 b (a0 :: q0) ≥ 1099511627776
       ·have hto : decide (A5 b (a0 :: q0) ≥ 1099511627776) = true := decide_eq_true htop
        obtain ⟨f2, L2, t2, R2, x0, x1, x4⟩ := ih (j + 1) false (a0 :: q0) t [] (by omega) (by omega) (fun _ => ⟨rfl, rfl⟩) h hL hR (by omega) htp
        rw [← nx (by omega)] at x4
        exact ⟨f2, L2, t2, R2, x0, x1, Tl (L := a0 :: q0) ok ke ne se ise nse hlt h150 hop ho (Cp _ hov) hlg (C2 h.bnd) hto x4⟩
       ·have hto : decide (A5 b (a0 :: q0) ≥ 1099511627776) = false := decide_eq_false htop
        have hm := Gz (b := b) (t := t) (k := ke) (n := ne) (s := se) (is := ise) (ns := nse) ⟨n4, n5⟩
        have hx := Xi (L := a0 :: q0) (kp := 0) (xb := b) (k := ke) (n := ne) (s := se) (is := ise) (ns := nse) (by simp) (by omega) (by omega)
        have hnt := h.note (x := none) (fun v e => by cases e) (by omega)
        rw [show Bj 0 t [] none = [] from rfl] at hnt
        obtain ⟨f2, L2, t2, R2, x0, x1, x4⟩ := ih (j + 1) false ((a0 :: q0) ++ [none]) (t + 1) [] (by omega) (by omega) (fun _ => ⟨rfl, rfl⟩) hnt (E4 hL (fun v e => by cases e)) hR (by simp only [List.length_append, List.length_singleton]; omega) (by simp only [A5, List.length_append, List.length_singleton] at *; omega)
        rw [← nx (by omega)] at x4
        exact ⟨f2, L2, t2, R2, x0, x1, Tm (L := a0 :: q0) ok ke ne se ise nse hlt h150 hop ho (Cp _ hov) hlg (C2 h.bnd) hto hm hx x4⟩
theorem doDS {b i : Int} {ops : List OpI} {n : Nat} (ih : ∀ (j : Nat) (f : Bool) (L : List (Option Val)) (t : Int) (R : List (Option Val)), ops.length - j = n → j ≤ ops.length → (f = false → 0 = (0 : Int) ∧ R = []) → Rel 0 b t R b L → Dw L → Dw R → L.length ≤ j ∧ j ≤ 150 → A5 b L ≤ 1099511627776 →
   ∃ f2 L2 t2 R2, (f2 = false → 0 = (0 : Int) ∧ R2 = []) ∧ Rel 0 b t2 R2 b L2 ∧ LoopN lp 0 (Ae lf3 0) (tl 0 114 [(2, (.p (.sl (Ap ops)))), (3, .p (.int .i64 i)), (9, (.ptr 0 0 0)), (11, (.ptr (nxS f) 0 0)), (12, (.p (.int .i64 (j : Int))))]) (stD f 0 b t R L) (.exit 0, (tl 0 114 [(3, .p (.int .i64 i)), (9, (.ptr 0 0 0)), (11, (.ptr (nxS f2) 0 0))]), stD f2 0 b t2 R2 L2))
  {j : Nat} {t : Int} {R : List (Option Val)} (h1 : ops.length - j = n + 1) (h2 : j ≤ ops.length) (h : Rel 0 b t [] b []) (hL : Dw []) (hR : Dw []) (hj : ([] : List (Option Val)).length ≤ j ∧ j < 150) (htp : A5 b [] ≤ 1099511627776) {ok ke ne : Int} {se : List UInt8} {ise : List Val} {nse : List (List UInt8)} {bv : Bool} (hop : ops[j]? = some (OpI.mk ok (.mk ke ne se ise nse) bv)) (hov : okV (.mk ke ne se ise nse)) :
  ∃ f2 L2 t2 R2, (f2 = false → 0 = (0 : Int) ∧ R2 = []) ∧ Rel 0 b t2 R2 b L2 ∧ LoopN lp 0 (Ae lf3 0) (tl 0 114 [(2, (.p (.sl (Ap ops)))), (3, .p (.int .i64 i)), (9, (.ptr 0 0 0)), (11, (.ptr (nxS false) 0 0)), (12, (.p (.int .i64 (j : Int))))]) (stD false 0 b t [] []) (.exit 0, (tl 0 114 [(3, .p (.int .i64 i)), (9, (.ptr 0 0 0)), (11, (.ptr (nxS f2) 0 0))]), stD f2 0 b t2 R2 L2) := by
 obtain ⟨n1, n2, n3, n4, n5⟩ := h.nums
 have hlt : decide ((j : Int) < ((List.length (Ap ops) : Nat) : Int)) = true := by rw [Fi]; exact decide_eq_true (by omega)
 have h150 : decide ((j : Int) < 150) = true := decide_eq_true (by omega)
 have hl1 := h.bnd.l1
 have htt : t ≤ 1099511627776 := by rw [n3]; exact htp
 have hcode := pCodeZ (b := b) (t := t) ⟨n2.1, by have := h.inv.top; omega⟩ n5
 cases bv with
 | true =>
     cases ho : (ok == 1) with
     | false =>
      cases ho2 : (ok == 2) with
      | false =>
       cases ho3 : (ok == 3) with
       | false =>
        obtain ⟨f2, L2, t2, R2, x0, x1, x4⟩ := ih (j + 1) false [] t [] (by omega) (by omega) (fun _ => ⟨rfl, rfl⟩) h hL hR (by omega) htp
        rw [← nx (by omega)] at x4
        exact ⟨f2, L2, t2, R2, x0, x1, Tp ok ke ne se ise nse hlt h150 hop ho ho2 ho3 x4⟩
       | true =>
        obtain ⟨hrb, hwb⟩ := F9 h hL htt
        obtain ⟨f2, L2, t2, R2, x0, x1, x4⟩ := ih (j + 1) true [] t _ (by omega) (by omega) (fun h => by cases h) hrb hL hwb (by omega) htp
        rw [← nx (by omega)] at x4
        exact ⟨f2, L2, t2, R2, x0, x1, Rd (xv := ([], false)) ok ke ne se ise nse hlt h150 hop ho ho2 ho3 hcode Mn (Mm h hL htt) (by rfl) x4⟩
      | true =>
       obtain ⟨f2, L2, t2, R2, x0, x1, x4⟩ := ih (j + 1) false [] t [] (by omega) (by omega) (fun _ => ⟨rfl, rfl⟩) h hL hR (by omega) htp
       rw [← nx (by omega)] at x4
       exact ⟨f2, L2, t2, R2, x0, x1, V0 ok ke ne se ise nse hlt h150 hop ho ho2 Xl (Gz (k := 0) (n := 0) (s := []) (is := []) (ns := []) ⟨n4, n5⟩) x4⟩
     | true =>
      cases hlg : Bc (.mk ke ne se ise nse) with
      | true =>
       obtain ⟨f2, L2, t2, R2, x0, x1, x4⟩ := ih (j + 1) false [] t [] (by omega) (by omega) (fun _ => ⟨rfl, rfl⟩) h hL hR (by omega) htp
       rw [← nx (by omega)] at x4
       exact ⟨f2, L2, t2, R2, x0, x1, Vz ok ke ne se ise nse hlt h150 hop ho (Cp _ hov) hlg x4⟩
      | false =>
       have hdp := Ga hov hlg
       by_cases htop : A5 b [] ≥ 1099511627776
       ·have hto : decide (A5 b ([] : List (Option Val)) ≥ 1099511627776) = true := decide_eq_true htop
        obtain ⟨f2, L2, t2, R2, x0, x1, x4⟩ := ih (j + 1) false [] t [] (by omega) (by omega) (fun _ => ⟨rfl, rfl⟩) h hL hR (by omega) htp
        rw [← nx (by omega)] at x4
        exact ⟨f2, L2, t2, R2, x0, x1, To ok ke ne se ise nse hlt h150 hop ho (Cp _ hov) hlg (C2 h.bnd) hto x4⟩
       ·have hto : decide (A5 b ([] : List (Option Val)) ≥ 1099511627776) = false := decide_eq_false htop
        have hm := Pt (b := b) (t := t) hov hdp ⟨n4, n5⟩
        have hck := Qj _ hov hdp
        have hx := Xf (kp := 0) (xb := b) (k := ke) (n := ne) (s := se) (is := ise) (ns := nse) hck
        cases hc : (Bp (.mk ke ne se ise nse) == 0) with
        | true =>
         have hw := Rf hov hlg (eq_of_beq hc)
         have hnt := h.note (x := some (.mk ke ne se ise nse)) (fun v e => by cases e; exact hw) (by omega)
         rw [show Bj 0 t [] (some (Val.mk ke ne se ise nse)) = [] from rfl] at hnt
         obtain ⟨f2, L2, t2, R2, x0, x1, x4⟩ := ih (j + 1) false ([] ++ [some (.mk ke ne se ise nse)]) (t + 1) [] (by omega) (by omega) (fun _ => ⟨rfl, rfl⟩) hnt (E4 hL (fun v e => by cases e; exact hw)) hR (by simp only [List.length_append, List.length_singleton]; omega) (by simp only [A5, List.length_append, List.length_singleton] at *; omega)
         rw [← nx (by omega)] at x4
         rw [hc, if_pos rfl] at hm hx
         exact ⟨f2, L2, t2, R2, x0, x1, Rb ok ke ne se ise nse hlt h150 hop ho (Cp _ hov) hlg (C2 h.bnd) hto hc hm hx x4⟩
        | false =>
         obtain ⟨f2, L2, t2, R2, x0, x1, x4⟩ := ih (j + 1) false [] t [] (by omega) (by omega) (fun _ => ⟨rfl, rfl⟩) h hL hR (by omega) htp
         rw [← nx (by omega)] at x4
         rw [hc, if_neg (by decide)] at hm hx
         exact ⟨f2, L2, t2, R2, x0, x1, Rc ok ke ne se ise nse hlt h150 hop ho (Cp _ hov) hlg (C2 h.bnd) hto hc hm hx x4⟩
 | false =>
     cases ho : (ok == 1) with
     | false =>
      cases ho2 : (ok == 2) with
      | false =>
       cases ho3 : (ok == 3) with
       | false =>
        obtain ⟨f2, L2, t2, R2, x0, x1, x4⟩ := ih (j + 1) false [] t [] (by omega) (by omega) (fun _ => ⟨rfl, rfl⟩) h hL hR (by omega) htp
        rw [← nx (by omega)] at x4
        exact ⟨f2, L2, t2, R2, x0, x1, Ts ok ke ne se ise nse hlt h150 hop ho ho2 ho3 x4⟩
       | true =>
        obtain ⟨hrb, hwb⟩ := F9 h hL htt
        obtain ⟨f2, L2, t2, R2, x0, x1, x4⟩ := ih (j + 1) true [] t _ (by omega) (by omega) (fun h => by cases h) hrb hL hwb (by omega) htp
        rw [← nx (by omega)] at x4
        exact ⟨f2, L2, t2, R2, x0, x1, Re (xv := ([], false)) ok ke ne se ise nse hlt h150 hop ho ho2 ho3 hcode Mn (Mm h hL htt) (by rfl) x4⟩
      | true =>
       obtain ⟨f2, L2, t2, R2, x0, x1, x4⟩ := ih (j + 1) false [] t [] (by omega) (by omega) (fun _ => ⟨rfl, rfl⟩) h hL hR (by omega) htp
       rw [← nx (by omega)] at x4
       exact ⟨f2, L2, t2, R2, x0, x1, V2 ok ke ne se ise nse hlt h150 hop ho ho2 Xl (Gz (k := 0) (n := 0) (s := []) (is := []) (ns := []) ⟨n4, n5⟩) x4⟩
     | true =>
      cases hlg : Bc (.mk ke ne se ise nse) with
      | true =>
       obtain ⟨f2, L2, t2, R2, x0, x1, x4⟩ := ih (j + 1) false [] t [] (by omega) (by omega) (fun _ => ⟨rfl, rfl⟩) h hL hR (by omega) htp
       rw [← nx (by omega)] at x4
       exact ⟨f2, L2, t2, R2, x0, x1, V1 ok ke ne se ise nse hlt h150 hop ho (Cp _ hov) hlg x4⟩
      | false =>
       have hdp := Ga hov hlg
       by_cases htop : A5 b [] ≥ 1099511627776
       ·have hto : decide (A5 b ([] : List (Option Val)) ≥ 1099511627776) = true := decide_eq_true htop
        obtain ⟨f2, L2, t2, R2, x0, x1, x4⟩ := ih (j + 1) false [] t [] (by omega) (by omega) (fun _ => ⟨rfl, rfl⟩) h hL hR (by omega) htp
        rw [← nx (by omega)] at x4
        exact ⟨f2, L2, t2, R2, x0, x1, Tq ok ke ne se ise nse hlt h150 hop ho (Cp _ hov) hlg (C2 h.bnd) hto x4⟩
       ·have hto : decide (A5 b ([] : List (Option Val)) ≥ 1099511627776) = false := decide_eq_false htop
        have hm := Gz (b := b) (t := t) (k := ke) (n := ne) (s := se) (is := ise) (ns := nse) ⟨n4, n5⟩
        have hx := Xg (kp := 0) (xb := b) (k := ke) (n := ne) (s := se) (is := ise) (ns := nse)
        have hnt := h.note (x := none) (fun v e => by cases e) (by omega)
        rw [show Bj 0 t [] none = [] from rfl] at hnt
        obtain ⟨f2, L2, t2, R2, x0, x1, x4⟩ := ih (j + 1) false ([] ++ [none]) (t + 1) [] (by omega) (by omega) (fun _ => ⟨rfl, rfl⟩) hnt (E4 hL (fun v e => by cases e)) hR (by simp only [List.length_append, List.length_singleton]; omega) (by simp only [A5, List.length_append, List.length_singleton] at *; omega)
        rw [← nx (by omega)] at x4
        exact ⟨f2, L2, t2, R2, x0, x1, Tr ok ke ne se ise nse hlt h150 hop ho (Cp _ hov) hlg (C2 h.bnd) hto hm hx x4⟩
theorem doL {kp b i : Int} {ops : List OpI} (hops : ∀ o ∈ ops, okI1 o) : ∀ (n j : Nat) (f : Bool) (L : List (Option Val)) (t : Int) (R : List (Option Val)), ops.length - j = n → j ≤ ops.length → (f = false → kp = (0 : Int) ∧ R = []) → Rel kp b t R b L → Dw L → Dw R → L.length ≤ j ∧ j ≤ 150 → A5 b L ≤ 1099511627776 →
   ∃ f2 L2 t2 R2, (f2 = false → kp = (0 : Int) ∧ R2 = []) ∧ Rel kp b t2 R2 b L2 ∧ LoopN lp 0 (Ae lf3 0) (tl 0 114 [(2, (.p (.sl (Ap ops)))), (3, .p (.int .i64 i)), (9, (.ptr 0 0 0)), (11, (.ptr (nxS f) 0 0)), (12, (.p (.int .i64 (j : Int))))]) (stD f kp b t R L) (.exit 0, (tl 0 114 [(3, .p (.int .i64 i)), (9, (.ptr 0 0 0)), (11, (.ptr (nxS f2) 0 0))]), stD f2 kp b t2 R2 L2) := by
 intro n
 induction n with
 | zero =>
  intro j f L t R h1 h2 hf h hL hR hj htp
  have hlt : decide ((j : Int) < ((List.length (Ap ops) : Nat) : Int)) = false := by rw [Fi]; exact decide_eq_false (by omega)
  refine ⟨f, L, t, R, hf, h, ?_⟩
  cases f with
  | true =>
   cases L with
   | nil => exact doBRt_n hlt
   | cons a0 q0 => exact doARt_n hlt
  | false =>
   obtain ⟨rfl, rfl⟩ := hf rfl
   cases L with
   | nil => exact doDRt_n hlt
   | cons a0 q0 => exact doCRt_n hlt
 | succ n ih =>
  intro j f L t R h1 h2 hf h hL hR hj htp
  by_cases hj1 : j < 150
  ·obtain ⟨⟨ok, ⟨ke, ne, se, ise, nse⟩, bv⟩, hop⟩ : ∃ o, ops[j]? = some o := ⟨ops[j], List.getElem?_eq_getElem (by omega)⟩
   have hov : okV (.mk ke ne se ise nse) := hops _ (List.mem_of_getElem? hop)
   cases f with
   | true =>
    cases L with
    | nil => exact doBS ih h1 h2 h hL hR ⟨hj.1, hj1⟩ htp hop hov
    | cons a0 q0 => exact doAS ih h1 h2 h hL hR ⟨hj.1, hj1⟩ htp hop hov
   | false =>
    obtain ⟨rfl, rfl⟩ := hf rfl
    cases L with
    | nil => exact doDS (R := []) ih h1 h2 h hL hR ⟨hj.1, hj1⟩ htp hop hov
    | cons a0 q0 => exact doCS (R := []) ih h1 h2 h hL hR ⟨hj.1, hj1⟩ htp hop hov
  ·have hlt : decide ((j : Int) < ((List.length (Ap ops) : Nat) : Int)) = true := by rw [Fi]; exact decide_eq_true (by omega)
   have h150 : decide ((j : Int) < 150) = false := decide_eq_false (by omega)
   refine ⟨f, L, t, R, hf, h, ?_⟩
   cases f with
   | true =>
    cases L with
    | nil => exact doBRt_yn hlt h150
    | cons a0 q0 => exact doARt_yn hlt h150
   | false =>
    obtain ⟨rfl, rfl⟩ := hf rfl
    cases L with
    | nil => exact doDRt_yn hlt h150
    | cons a0 q0 => exact doCRt_yn hlt h150
theorem lawDo {kp b i : Int} {ops : List OpI} (hops : ∀ o ∈ ops, okI1 o) : ∃ st, Runs lp 3 [.p (.int .i64 kp), .p (.int .i64 b), .p (.sl (Ap ops)), .p (.int .i64 i)] [] (.p (.bool true), st) := by
 have no : ∀ {p : Prop} {x : Bool}, x = true → x = false → p := fun h g => by rw [h] at g; cases g
 have hnew := newR (kp := kp) (b := b)
 cases hw : wI kp 64 with
 | false =>
  rw [hw, if_neg (by decide)] at hnew
  have hm := mayXF (kp := kp) (b := b) (by rw [hw]; rfl)
  have h := Y5 (kp := kp) (b := b) (i := i) (t2 := 0) (R2 := []) (L2 := []) (fz := true) (ops := ops) (fun h => no h hw) (fun h => no h hw) (fun h => no h hw) (fun h => no h hw) (fun h => no h hw) (fun h => no h hw) (fun h => no h hw) (fun h => no h hw) (fun h => no h hw) (fun h => no h hw) (fun h => no h hw) (fun h => no h hw) (fun _ => hnew) (fun _ => hm)
  rw [hw, if_neg (by decide)] at h
  exact ⟨_, h⟩
 | true =>
  cases hw2 : wI b 1099511627776 with
  | false =>
   rw [hw, hw2, if_pos rfl, if_neg (by decide)] at hnew
   have hm := mayXF (kp := kp) (b := b) (by rw [hw, hw2]; rfl)
   have h := Y5 (kp := kp) (b := b) (i := i) (t2 := 0) (R2 := []) (L2 := []) (fz := true) (ops := ops) (fun _ h => no h hw2) (fun _ h => no h hw2) (fun _ h => no h hw2) (fun _ h => no h hw2) (fun _ h => no h hw2) (fun _ h => no h hw2) (fun _ h => no h hw2) (fun _ h => no h hw2) (fun _ h => no h hw2) (fun _ h => no h hw2) (fun _ _ => hnew) (fun _ _ => hm) (fun h => no hw h) (fun h => no hw h)
   rw [hw, hw2, if_pos rfl, if_neg (by decide)] at h
   exact ⟨_, h⟩
  | true =>
   rw [hw, hw2, if_pos rfl, if_pos rfl] at hnew
   have hm := mayXT (kp := kp) (b := b) (by rw [hw, hw2]; rfl)
   have hk : 0 ≤ kp ∧ kp ≤ 64 := by simpa [wI] using hw
   have hb : 0 ≤ b ∧ b ≤ 1099511627776 := by simpa [wI] using hw2
   have hr0 : Rel kp b b (List.replicate (Int.toNat kp) none) b [] := ⟨InvI.new hk.1 hb.1, BaseI.refl hb.1, ⟨hk.1, hk.2, hb.1, by omega, by simp, by simp⟩, Qx⟩
   obtain ⟨f2, L2, t2, R2, x0, x1, x4⟩ := doL (kp := kp) (b := b) (i := i) hops ops.length 0 true [] b _ (by omega) (by omega) (fun h => by cases h) hr0 (fun v hv => by cases hv) Tt ⟨by simp, by omega⟩ (by simp [A5]; omega)
   cases f2 with
   | true =>
    cases L2 with
    | nil =>
     have h := Y5 (kp := kp) (b := b) (i := i) (t2 := t2) (R2 := R2) (L2 := []) (fz := true) (ops := ops) (fun _ _ => hnew) (fun _ _ => hm) (fun _ _ _ _ => x4) (fun _ _ _ _ => lkBC x1) (fun _ _ _ h => no (by rfl) h) (fun _ _ _ h => no (by rfl) h) (fun _ _ h => no rfl h) (fun _ _ h => no rfl h) (fun _ _ h => no rfl h) (fun _ _ h => no rfl h) (fun _ h => no hw2 h) (fun _ h => no hw2 h) (fun h => no hw h) (fun h => no hw h)
     rw [hw, hw2, if_pos rfl, if_pos rfl] at h
     exact ⟨_, h⟩
    | cons a0 q0 =>
     have h := Y5 (kp := kp) (b := b) (i := i) (t2 := t2) (R2 := R2) (L2 := a0 :: q0) (fz := true) (ops := ops) (fun _ _ => hnew) (fun _ _ => hm) (fun _ _ _ h => no h (by rfl)) (fun _ _ _ h => no h (by rfl)) (fun _ _ _ _ => x4) (fun _ _ _ _ => lkAC x1) (fun _ _ h => no rfl h) (fun _ _ h => no rfl h) (fun _ _ h => no rfl h) (fun _ _ h => no rfl h) (fun _ h => no hw2 h) (fun _ h => no hw2 h) (fun h => no hw h) (fun h => no hw h)
     rw [hw, hw2, if_pos rfl, if_pos rfl] at h
     exact ⟨_, h⟩
   | false =>
    obtain ⟨rfl, rfl⟩ := x0 rfl
    cases L2 with
    | nil =>
     have h := Y5 (kp := 0) (b := b) (i := i) (t2 := t2) (R2 := []) (L2 := []) (fz := false) (ops := ops) (fun _ _ => hnew) (fun _ _ => hm) (fun _ _ h => no h rfl) (fun _ _ h => no h rfl) (fun _ _ h => no h rfl) (fun _ _ h => no h rfl) (fun _ _ _ _ => x4) (fun _ _ _ _ => lkDC x1) (fun _ _ _ h => no (by rfl) h) (fun _ _ _ h => no (by rfl) h) (fun _ h => no hw2 h) (fun _ h => no hw2 h) (fun h => no hw h) (fun h => no hw h)
     rw [hw, hw2, if_pos rfl, if_pos rfl] at h
     exact ⟨_, h⟩
    | cons a0 q0 =>
     have h := Y5 (kp := 0) (b := b) (i := i) (t2 := t2) (R2 := []) (L2 := a0 :: q0) (fz := false) (ops := ops) (fun _ _ => hnew) (fun _ _ => hm) (fun _ _ h => no h rfl) (fun _ _ h => no h rfl) (fun _ _ h => no h rfl) (fun _ _ h => no h rfl) (fun _ _ _ h => no h (by rfl)) (fun _ _ _ h => no h (by rfl)) (fun _ _ _ _ => x4) (fun _ _ _ _ => lkCC x1) (fun _ h => no hw2 h) (fun _ h => no hw2 h) (fun h => no hw h) (fun h => no hw h)
     rw [hw, hw2, if_pos rfl, if_pos rfl] at h
     exact ⟨_, h⟩
end Go.Proofs.Ytmbjojnldbeicaa

import Derived.Test.YtmbjojnldbeicaaLsCodW2
set_option linter.unusedVariables false
set_option linter.unusedSimpArgs false
set_option maxRecDepth 100000
set_option linter.unusedSimpArgs false
namespace Go.Proofs.Ytmbjojnldbeicaa
open Go Go.LS
theorem F0 (x : Src) : (Aq x).2.1.length ≤ x.1.length := by
 unfold Aq; split <;> simp
theorem sInt_le (x : Src) : (Gt x).2.1.length ≤ x.1.length := by
 unfold Gt; split <;> simp
theorem Gu (x : Src) (m : Int) : (Ac x m).2.1.length ≤ x.1.length := by
 unfold Ac; split <;> simp
theorem Og (x : Src) (m : Int) : (Ba x m).2.1.length ≤ x.1.length := by
 unfold Ba; split <;> simp
def zI (k : Int) (es : List Val) : Nat := if es = [] then 2 else if (k == 7) = true then 4 else 3
theorem Oh {k : Int} {es : List Val} (h : es ≠ []) (hk : (k == 7) = true) : zI k es = 4 := by rw [zI, if_neg h, if_pos hk]
theorem Oi {k : Int} {es : List Val} (h : es ≠ []) (hk : (k == 7) = false) : zI k es = 3 := by rw [zI, if_neg h, if_neg (by rw [hk]; decide)]
def stP (x : Src) (k : Int) (es : List Val) (ms : List (List UInt8)) : List LObj :=
 if es = [] then [.row [[.p (.sl (bs x.1)), .p (.bool x.2)]], .row [[.p (.int .i64 k), .p (.int .i64 0), .p (.str []), .tight [], .tight []]], .row [[.p (.int .i64 0), .p (.int .i64 0), .p (.str []), .tight [], .tight []]]]
 else if (k == 7) = true then [.row [[.p (.sl (bs x.1)), .p (.bool x.2)]], .row [[.p (.int .i64 k), .p (.int .i64 0), .p (.str []), .sl (Ad es) 2 (List.length (Ad es)), .sl (Ak ms) 3 (List.length (Ak ms))]], .spare 5 (List.length (Ad es)), .spare 1 (List.length (Ak ms)), .row [[.p (.int .i64 0), .p (.int .i64 0), .p (.str []), .tight [], .tight []]]]
 else [.row [[.p (.sl (bs x.1)), .p (.bool x.2)]], .row [[.p (.int .i64 k), .p (.int .i64 0), .p (.str []), .sl (Ad es) 2 (List.length (Ad es)), .tight []]], .spare 5 (List.length (Ad es)), .row [[.p (.int .i64 0), .p (.int .i64 0), .p (.str []), .tight [], .tight []]]]
theorem It {x : Src} {k : Int} {ms : List (List UInt8)} : stP x k [] ms = [.row [[.p (.sl (bs x.1)), .p (.bool x.2)]], .row [[.p (.int .i64 k), .p (.int .i64 0), .p (.str []), .tight [], .tight []]], .row [[.p (.int .i64 0), .p (.int .i64 0), .p (.str []), .tight [], .tight []]]] := if_pos rfl
theorem Kp {x : Src} {k : Int} {es : List Val} {ms : List (List UInt8)} (h : es ≠ []) (hk : (k == 7) = true) : stP x k es ms = [.row [[.p (.sl (bs x.1)), .p (.bool x.2)]], .row [[.p (.int .i64 k), .p (.int .i64 0), .p (.str []), .sl (Ad es) 2 (List.length (Ad es)), .sl (Ak ms) 3 (List.length (Ak ms))]], .spare 5 (List.length (Ad es)), .spare 1 (List.length (Ak ms)), .row [[.p (.int .i64 0), .p (.int .i64 0), .p (.str []), .tight [], .tight []]]] := by
 rw [stP, if_neg h, if_pos hk]
theorem Kq {x : Src} {k : Int} {es : List Val} {ms : List (List UInt8)} (h : es ≠ []) (hk : (k == 7) = false) : stP x k es ms = [.row [[.p (.sl (bs x.1)), .p (.bool x.2)]], .row [[.p (.int .i64 k), .p (.int .i64 0), .p (.str []), .sl (Ad es) 2 (List.length (Ad es)), .tight []]], .spare 5 (List.length (Ad es)), .row [[.p (.int .i64 0), .p (.int .i64 0), .p (.str []), .tight [], .tight []]]] := by
 rw [stP, if_neg h, if_neg (by rw [hk]; decide)]
theorem itLoop {k d c : Int} {rd : Src → Val × Src} (hrd : ∀ y : Src, y.1.length ≤ 140737488355328 → Runs lp 77 [.ptr 0 0 0, .p (.int .i64 d)] (sto y) (Es (rd y).1, sto (rd y).2) ∧ (rd y).2.1.length ≤ y.1.length) (hc : c ≤ 4096) :
  ∀ (j i : Nat) (es : List Val) (ms : List (List UInt8)) (x : Src), x.1.length ≤ 140737488355328 → (i : Int) + j = max c 0 → es.length = i → ((k == 7) = true → ms.length = i) → ((k == 7) = false → ms = []) →
  LoopN lp 1 (Ae Gf 0) (tl 0 33 [(0, .ptr 0 0 0), (2, .p (.int .i64 d)), (4, .ptr 1 0 0), (6, .ptr (zI k es) 0 0), (8, .p (.int .i64 c)), (9, .p (.int .i64 (i : Int)))]) (stP x k es ms)
   (.exit 0, tl 0 33 [(4, .ptr 1 0 0), (6, .ptr (zI k ((rdI rd (k == 7) j es ms x).1)) 0 0)], stP (rdI rd (k == 7) j es ms x).2.2 k (rdI rd (k == 7) j es ms x).1 (rdI rd (k == 7) j es ms x).2.1) := by
 intro j
 induction j with
 | zero =>
  intro i es ms x hx hi he hm1 hm2
  have hlt : decide ((i : Int) < c) = false := decide_eq_false (by omega)
  simp only [rdI]
  by_cases hes : es = []
  ·subst hes; rw [It]; exact itF_n hlt
  ·by_cases hk : (k == 7) = true
   ·rw [Kp hes hk]; rw [Oh hes hk]; exact itD_n hlt
   ·have hk := Bool.eq_false_iff.2 hk
    rw [Kq hes hk]; rw [Oi hes hk]; exact itA_n hlt
 | succ j ih =>
  intro i es ms x hx hi he hm1 hm2
  have hlt : decide ((i : Int) < c) = true := decide_eq_true (by omega)
  have hi4 : i ≤ 4096 := by omega
  cases hb : x.2 with
  | true =>
   have e : rdI rd (k == 7) (j + 1) es ms x = (es, ms, x) := by simp only [rdI, hb, if_true]
   rw [e]
   by_cases hes : es = []
   ·subst hes; rw [It]; exact itF_yy hlt ( hb)
   ·by_cases hk : (k == 7) = true
    ·rw [Kp hes hk]; rw [Oh hes hk]; exact itD_yy hlt ( hb)
    ·have hk := Bool.eq_false_iff.2 hk
     rw [Kq hes hk]; rw [Oi hes hk]; exact itA_yy hlt ( hb)
  | false =>
   have hb' : x.2 = false := by simp [hb]
   cases hk : (k == 7) with
   | true =>
    have hl := Og x 32
    rcases hv : rd (Ba x 32).2 with ⟨⟨kr, nr, sr, isr, nsr⟩, x2⟩
    obtain ⟨r1, r2⟩ := hrd (Ba x 32).2 (by omega)
    rw [hv] at r1 r2
    have r2 : x2.1.length ≤ (Ba x 32).2.1.length := r2
    have e : rdI rd true (j + 1) es ms x = rdI rd true j (es ++ [.mk kr nr sr isr nsr]) (ms ++ [(Ba x 32).1]) x2 := by simp only [rdI, hb, Bool.false_eq_true, if_false, if_true, hv]
    rw [e]
    have hml := hm1 hk
    have h := ih (i + 1) (es ++ [.mk kr nr sr isr nsr]) (ms ++ [(Ba x 32).1]) x2 (by omega) (by omega) (by simp [he]) (fun _ => by simp [hml]) (fun h => by rw [hk] at h; cases h)
    rw [hk] at h
    have hne : es ++ [.mk kr nr sr isr nsr] ≠ [] := by simp
    rw [Kp (x := x2) hne hk] at h; rw [Oh hne hk] at h
    by_cases hes : es = []
    ·subst hes
     obtain rfl : i = 0 := by simpa using he.symm
     obtain rfl : ms = [] := List.eq_nil_of_length_eq_zero hml
     rw [It]
     exact itF_yny kr nr sr isr nsr x2 hlt hb' hk (W8 x 32 hx) r1 (by rw [nx (by omega)]; exact h)
    ·rw [Kp hes hk]; rw [Oh hes hk]
     exact itD_yny kr nr sr isr nsr x2 hlt hb' hk (W8 x 32 hx) (by omega) r1 (by omega) (by rw [nx (by omega)]; exact h)
   | false =>
    rcases hv : rd x with ⟨⟨kr, nr, sr, isr, nsr⟩, x2⟩
    obtain ⟨r1, r2⟩ := hrd x hx
    rw [hv] at r1 r2
    have r2 : x2.1.length ≤ x.1.length := r2
    have e : rdI rd false (j + 1) es ms x = rdI rd false j (es ++ [.mk kr nr sr isr nsr]) ms x2 := by simp only [rdI, hb, Bool.false_eq_true, if_false, hv]
    rw [e]
    have hml := hm2 hk
    have h := ih (i + 1) (es ++ [.mk kr nr sr isr nsr]) ms x2 (by omega) (by omega) (by simp [he]) (fun h => by rw [hk] at h; cases h) (fun _ => hml)
    rw [hk] at h
    have hne : es ++ [.mk kr nr sr isr nsr] ≠ [] := by simp
    rw [Kq (x := x2) hne hk, Oi hne hk] at h
    by_cases hes : es = []
    ·subst hes
     obtain rfl : i = 0 := by simpa using he.symm
     rw [It]
     exact itF_ynn kr nr sr isr nsr x2 hlt hb' hk r1 (by rw [nx (by omega)]; exact h)
    ·rw [Kq hes hk]; rw [Oi hes hk]
     exact itA_ynn kr nr sr isr nsr x2 hlt hb' hk r1 (by omega) (by rw [nx (by omega)]; exact h)
end Go.Proofs.Ytmbjojnldbeicaa

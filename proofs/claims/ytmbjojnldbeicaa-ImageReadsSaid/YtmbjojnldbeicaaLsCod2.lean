import Derived.Test.YtmbjojnldbeicaaLsCodW2
set_option linter.unusedVariables false
set_option linter.unusedSimpArgs false
set_option maxRecDepth 100000
set_option linter.unusedSimpArgs false
namespace Go.Proofs.Ytmbjojnldbeicaa
open Go Go.LS
theorem Dr (x : Src) : (Ab x).2.1.length ≤ x.1.length := by
 unfold Ab; split <;> simp
theorem sInt_le (x : Src) : (Dl x).2.1.length ≤ x.1.length := by
 unfold Dl; split <;> simp
theorem Ep (x : Src) (m : Int) : (Aa x m).2.1.length ≤ x.1.length := by
 unfold Aa; split <;> simp
theorem Je (x : Src) (m : Int) : (Al x m).2.1.length ≤ x.1.length := by
 unfold Al; split <;> simp
def zI (k : Int) (es : List Val) : Nat := if es = [] then 2 else if (k == 7) = true then 4 else 3
theorem Mu {k : Int} {es : List Val} (h : es ≠ []) (hk : (k == 7) = true) : zI k es = 4 := by rw [zI, if_neg h, if_pos hk]
theorem Mv {k : Int} {es : List Val} (h : es ≠ []) (hk : (k == 7) = false) : zI k es = 3 := by rw [zI, if_neg h, if_neg (by rw [hk]; decide)]
def stP (x : Src) (k : Int) (es : List Val) (ms : List (List UInt8)) : List LObj :=
 if es = [] then [.row [[.p (.sl (bs x.1)), .p (.bool x.2)]], .row [[.p (.int .i64 k), .p (.int .i64 0), .p (.str []), .tight [], .tight []]], .row [[.p (.int .i64 0), .p (.int .i64 0), .p (.str []), .tight [], .tight []]]]
 else if (k == 7) = true then [.row [[.p (.sl (bs x.1)), .p (.bool x.2)]], .row [[.p (.int .i64 k), .p (.int .i64 0), .p (.str []), .sl (Ad es) 2 (List.length (Ad es)), .sl (Af ms) 3 (List.length (Af ms))]], .spare 5 (List.length (Ad es)), .spare 1 (List.length (Af ms)), .row [[.p (.int .i64 0), .p (.int .i64 0), .p (.str []), .tight [], .tight []]]]
 else [.row [[.p (.sl (bs x.1)), .p (.bool x.2)]], .row [[.p (.int .i64 k), .p (.int .i64 0), .p (.str []), .sl (Ad es) 2 (List.length (Ad es)), .tight []]], .spare 5 (List.length (Ad es)), .row [[.p (.int .i64 0), .p (.int .i64 0), .p (.str []), .tight [], .tight []]]]
theorem Hm {x : Src} {k : Int} {ms : List (List UInt8)} : stP x k [] ms = [.row [[.p (.sl (bs x.1)), .p (.bool x.2)]], .row [[.p (.int .i64 k), .p (.int .i64 0), .p (.str []), .tight [], .tight []]], .row [[.p (.int .i64 0), .p (.int .i64 0), .p (.str []), .tight [], .tight []]]] := if_pos rfl
theorem Jf {x : Src} {k : Int} {es : List Val} {ms : List (List UInt8)} (h : es ≠ []) (hk : (k == 7) = true) : stP x k es ms = [.row [[.p (.sl (bs x.1)), .p (.bool x.2)]], .row [[.p (.int .i64 k), .p (.int .i64 0), .p (.str []), .sl (Ad es) 2 (List.length (Ad es)), .sl (Af ms) 3 (List.length (Af ms))]], .spare 5 (List.length (Ad es)), .spare 1 (List.length (Af ms)), .row [[.p (.int .i64 0), .p (.int .i64 0), .p (.str []), .tight [], .tight []]]] := by
 rw [stP, if_neg h, if_pos hk]
theorem Jg {x : Src} {k : Int} {es : List Val} {ms : List (List UInt8)} (h : es ≠ []) (hk : (k == 7) = false) : stP x k es ms = [.row [[.p (.sl (bs x.1)), .p (.bool x.2)]], .row [[.p (.int .i64 k), .p (.int .i64 0), .p (.str []), .sl (Ad es) 2 (List.length (Ad es)), .tight []]], .spare 5 (List.length (Ad es)), .row [[.p (.int .i64 0), .p (.int .i64 0), .p (.str []), .tight [], .tight []]]] := by
 rw [stP, if_neg h, if_neg (by rw [hk]; decide)]
def stR (x : Src) (k : Int) (es : List Val) (ms : List (List UInt8)) : List LObj :=
 if es = [] then [.row [[.p (.sl (bs x.1)), .p (.bool x.2)]], .row [[.p (.int .i64 0), .p (.int .i64 0), .p (.str []), .tight [], .tight []]], .row [[.p (.int .i64 k), .p (.int .i64 0), .p (.str []), .tight [], .tight []]]]
 else if (k == 7) = true then [.row [[.p (.sl (bs x.1)), .p (.bool x.2)]], .row [[.p (.int .i64 0), .p (.int .i64 0), .p (.str []), .tight [], .tight []]], .row [[.p (.int .i64 k), .p (.int .i64 0), .p (.str []), .sl (Ad es) 3 (List.length (Ad es)), .sl (Af ms) 4 (List.length (Af ms))]], .spare 5 (List.length (Ad es)), .spare 1 (List.length (Af ms))]
 else [.row [[.p (.sl (bs x.1)), .p (.bool x.2)]], .row [[.p (.int .i64 0), .p (.int .i64 0), .p (.str []), .tight [], .tight []]], .row [[.p (.int .i64 k), .p (.int .i64 0), .p (.str []), .sl (Ad es) 3 (List.length (Ad es)), .tight []]], .spare 5 (List.length (Ad es))]
theorem Hn {x : Src} {k : Int} {ms : List (List UInt8)} : stR x k [] ms = [.row [[.p (.sl (bs x.1)), .p (.bool x.2)]], .row [[.p (.int .i64 0), .p (.int .i64 0), .p (.str []), .tight [], .tight []]], .row [[.p (.int .i64 k), .p (.int .i64 0), .p (.str []), .tight [], .tight []]]] := if_pos rfl
theorem Jh {x : Src} {k : Int} {es : List Val} {ms : List (List UInt8)} (h : es ≠ []) (hk : (k == 7) = true) : stR x k es ms = [.row [[.p (.sl (bs x.1)), .p (.bool x.2)]], .row [[.p (.int .i64 0), .p (.int .i64 0), .p (.str []), .tight [], .tight []]], .row [[.p (.int .i64 k), .p (.int .i64 0), .p (.str []), .sl (Ad es) 3 (List.length (Ad es)), .sl (Af ms) 4 (List.length (Af ms))]], .spare 5 (List.length (Ad es)), .spare 1 (List.length (Af ms))] := by
 rw [stR, if_neg h, if_pos hk]
theorem Ji {x : Src} {k : Int} {es : List Val} {ms : List (List UInt8)} (h : es ≠ []) (hk : (k == 7) = false) : stR x k es ms = [.row [[.p (.sl (bs x.1)), .p (.bool x.2)]], .row [[.p (.int .i64 0), .p (.int .i64 0), .p (.str []), .tight [], .tight []]], .row [[.p (.int .i64 k), .p (.int .i64 0), .p (.str []), .sl (Ad es) 3 (List.length (Ad es)), .tight []]], .spare 5 (List.length (Ad es))] := by
 rw [stR, if_neg h, if_neg (by rw [hk]; decide)]
theorem nb {b : Bool} (h : b = true) : (!b) = false := by rw [h]; rfl
theorem itLoop {k d c : Int} {rd : Src → Val × Src} (hrd : ∀ y : Src, y.1.length ≤ 140737488355328 → Runs lp 77 [.ptr 0 0 0, .p (.int .i64 d)] (sto y) (El (rd y).1, sto (rd y).2) ∧ (rd y).2.1.length ≤ y.1.length) (hc : c ≤ 4096) :
  ∀ (j i : Nat) (es : List Val) (ms : List (List UInt8)) (x : Src), x.1.length ≤ 140737488355328 → (i : Int) + j = max c 0 → es.length = i → ((k == 7) = true → ms.length = i) → ((k == 7) = false → ms = []) →
  LoopN lp 1 (Ag Fg 0) (tl 0 33 [(0, .ptr 0 0 0), (2, .p (.int .i64 d)), (4, .ptr 1 0 0), (6, .ptr (zI k es) 0 0), (8, .p (.int .i64 c)), (9, .p (.int .i64 (i : Int)))]) (stP x k es ms)
   (.exit 0, tl 0 33 [(4, .ptr 1 0 0), (6, .ptr (zI k ((rdI rd (k == 7) j es ms x).1)) 0 0)], stP (rdI rd (k == 7) j es ms x).2.2 k (rdI rd (k == 7) j es ms x).1 (rdI rd (k == 7) j es ms x).2.1) := by
 intro j
 induction j with
 | zero =>
  intro i es ms x hx hi he hm1 hm2
  have hlt : decide ((i : Int) < c) = false := decide_eq_false (by omega)
  simp only [rdI]
  by_cases hes : es = []
  ·subst hes; rw [Hm]; exact itF_n hlt
  ·by_cases hk : (k == 7) = true
   ·rw [Jf hes hk]; rw [Mu hes hk]; exact itD_n hlt
   ·have hk := Bool.eq_false_iff.2 hk
    rw [Jg hes hk]; rw [Mv hes hk]; exact itA_n hlt
 | succ j ih =>
  intro i es ms x hx hi he hm1 hm2
  have hlt : decide ((i : Int) < c) = true := decide_eq_true (by omega)
  have hi4 : i ≤ 4096 := by omega
  cases hb : x.2 with
  | true =>
   have e : rdI rd (k == 7) (j + 1) es ms x = (es, ms, x) := by simp only [rdI, hb, if_true]
   rw [e]
   by_cases hes : es = []
   ·subst hes; rw [Hm]; exact itF_yy hlt ( hb)
   ·by_cases hk : (k == 7) = true
    ·rw [Jf hes hk]; rw [Mu hes hk]; exact itD_yy hlt ( hb)
    ·have hk := Bool.eq_false_iff.2 hk
     rw [Jg hes hk]; rw [Mv hes hk]; exact itA_yy hlt ( hb)
  | false =>
   have hb' : x.2 = false := by simp [hb]
   cases hk : (k == 7) with
   | true =>
    have hl := Je x 32
    rcases hv : rd (Al x 32).2 with ⟨⟨kr, nr, sr, isr, nsr⟩, x2⟩
    obtain ⟨r1, r2⟩ := hrd (Al x 32).2 (by omega)
    rw [hv] at r1 r2
    have r2 : x2.1.length ≤ (Al x 32).2.1.length := r2
    have e : rdI rd true (j + 1) es ms x = rdI rd true j (es ++ [.mk kr nr sr isr nsr]) (ms ++ [(Al x 32).1]) x2 := by simp only [rdI, hb, Bool.false_eq_true, if_false, if_true, hv]
    rw [e]
    have hml := hm1 hk
    have h := ih (i + 1) (es ++ [.mk kr nr sr isr nsr]) (ms ++ [(Al x 32).1]) x2 (by omega) (by omega) (by simp [he]) (fun _ => by simp [hml]) (fun h => by rw [hk] at h; cases h)
    rw [hk] at h
    have hne : es ++ [.mk kr nr sr isr nsr] ≠ [] := by simp
    rw [Jf (x := x2) hne hk] at h; rw [Mu hne hk] at h
    by_cases hes : es = []
    ·subst hes
     obtain rfl : i = 0 := by simpa using he.symm
     obtain rfl : ms = [] := List.eq_nil_of_length_eq_zero hml
     rw [Hm]
     exact Z5 kr nr sr isr nsr x2 hlt hb' hk (Tz x 32 hx) r1 (by rw [nx (by omega)]; exact h)
    ·rw [Jf hes hk]; rw [Mu hes hk]
     exact Z8 kr nr sr isr nsr x2 hlt hb' hk (Tz x 32 hx) (by omega) r1 (by omega) (by rw [nx (by omega)]; exact h)
   | false =>
    rcases hv : rd x with ⟨⟨kr, nr, sr, isr, nsr⟩, x2⟩
    obtain ⟨r1, r2⟩ := hrd x hx
    rw [hv] at r1 r2
    have r2 : x2.1.length ≤ x.1.length := r2
    have e : rdI rd false (j + 1) es ms x = rdI rd false j (es ++ [.mk kr nr sr isr nsr]) ms x2 := by simp only [rdI, hb, Bool.false_eq_true, if_false, hv]
    rw [e]
    have hml := hm2 hk
    have h := ih (i + 1) (es ++ [.mk kr nr sr isr nsr]) ms x2 (by omega) (by omega) (by simp [he]) (fun h => by rw [hk] at h; cases h) (fun _ => hml)
    rw [hk] at h
    have hne : es ++ [.mk kr nr sr isr nsr] ≠ [] := by simp
    rw [Jg (x := x2) hne hk, Mv hne hk] at h
    by_cases hes : es = []
    ·subst hes
     obtain rfl : i = 0 := by simpa using he.symm
     rw [Hm]
     exact Z6 kr nr sr isr nsr x2 hlt hb' hk r1 (by rw [nx (by omega)]; exact h)
    ·rw [Jg hes hk]; rw [Mv hes hk]
     exact Z7 kr nr sr isr nsr x2 hlt hb' hk r1 (by omega) (by rw [nx (by omega)]; exact h)
theorem rtLoop {k d c : Int} {rd : Src → Val × Src} (hrd : ∀ y : Src, y.1.length ≤ 140737488355328 → Runs lp 67 [.ptr 0 0 0, .p (.int .i64 (IntKind.wrap .i64 (d - 1)))] (sto y) (El (rd y).1, sto (rd y).2) ∧ (rd y).2.1.length ≤ y.1.length) (hc : c ≤ 4096) :
  ∀ (j i : Nat) (es : List Val) (ms : List (List UInt8)) (x : Src), x.1.length ≤ 140737488355328 → (i : Int) + j = max c 0 → es.length = i → ((k == 7) = true → ms.length = i) → ((k == 7) = false → ms = []) →
  LoopN lp 1 (Ag Ej 0) (tl 0 81 [(0, .ptr 0 0 0), (1, .p (.int .i64 d)), (4, .ptr 1 0 0), (5, .ptr 2 0 0), (6, .p (.int .i64 c)), (7, .p (.int .i64 (i : Int)))]) (stR x k es ms)
   (.exit 1, tl 0 81 [(4, .ptr 1 0 0), (5, .ptr 2 0 0)], stR (rdI rd (k == 7) j es ms x).2.2 k (rdI rd (k == 7) j es ms x).1 (rdI rd (k == 7) j es ms x).2.1) := by
 intro j
 induction j with
 | zero =>
  intro i es ms x hx hi he hm1 hm2
  have hlt : decide ((i : Int) < c) = false := decide_eq_false (by omega)
  simp only [rdI]
  by_cases hes : es = []
  ·subst hes; rw [Hn]; exact rtF_n hlt
  ·by_cases hk : (k == 7) = true
   ·rw [Jh hes hk]; exact rtD_n hlt
   ·have hk := Bool.eq_false_iff.2 hk
    rw [Ji hes hk]; exact rtA_n hlt
 | succ j ih =>
  intro i es ms x hx hi he hm1 hm2
  have hlt : decide ((i : Int) < c) = true := decide_eq_true (by omega)
  have hi4 : i ≤ 4096 := by omega
  cases hb : x.2 with
  | true =>
   have e : rdI rd (k == 7) (j + 1) es ms x = (es, ms, x) := by simp only [rdI, hb, if_true]
   rw [e]
   by_cases hes : es = []
   ·subst hes; rw [Hn]; exact rtF_yn hlt (nb hb)
   ·by_cases hk : (k == 7) = true
    ·rw [Jh hes hk]; exact rtD_yn hlt (nb hb)
    ·have hk := Bool.eq_false_iff.2 hk
     rw [Ji hes hk]; exact rtA_yn hlt (nb hb)
  | false =>
   have hb' : (!x.2) = true := by simp [hb]
   cases hk : (k == 7) with
   | true =>
    have hl := Je x 32
    rcases hv : rd (Al x 32).2 with ⟨⟨kr, nr, sr, isr, nsr⟩, x2⟩
    obtain ⟨r1, r2⟩ := hrd (Al x 32).2 (by omega)
    rw [hv] at r1 r2
    have r2 : x2.1.length ≤ (Al x 32).2.1.length := r2
    have e : rdI rd true (j + 1) es ms x = rdI rd true j (es ++ [.mk kr nr sr isr nsr]) (ms ++ [(Al x 32).1]) x2 := by simp only [rdI, hb, Bool.false_eq_true, if_false, if_true, hv]
    rw [e]
    have hml := hm1 hk
    have h := ih (i + 1) (es ++ [.mk kr nr sr isr nsr]) (ms ++ [(Al x 32).1]) x2 (by omega) (by omega) (by simp [he]) (fun _ => by simp [hml]) (fun h => by rw [hk] at h; cases h)
    rw [hk] at h
    have hne : es ++ [.mk kr nr sr isr nsr] ≠ [] := by simp
    rw [Jh (x := x2) hne hk] at h
    by_cases hes : es = []
    ·subst hes
     obtain rfl : i = 0 := by simpa using he.symm
     obtain rfl : ms = [] := List.eq_nil_of_length_eq_zero hml
     rw [Hn]
     exact Z9 kr nr sr isr nsr x2 hlt hb' hk (T0 x 32 hx) r1 (by rw [nx (by omega)]; exact h)
    ·rw [Jh hes hk]
     exact rtD_yyy kr nr sr isr nsr x2 hlt hb' hk (T0 x 32 hx) (by omega) r1 (by omega) (by rw [nx (by omega)]; exact h)
   | false =>
    rcases hv : rd x with ⟨⟨kr, nr, sr, isr, nsr⟩, x2⟩
    obtain ⟨r1, r2⟩ := hrd x hx
    rw [hv] at r1 r2
    have r2 : x2.1.length ≤ x.1.length := r2
    have e : rdI rd false (j + 1) es ms x = rdI rd false j (es ++ [.mk kr nr sr isr nsr]) ms x2 := by simp only [rdI, hb, Bool.false_eq_true, if_false, hv]
    rw [e]
    have hml := hm2 hk
    have h := ih (i + 1) (es ++ [.mk kr nr sr isr nsr]) ms x2 (by omega) (by omega) (by simp [he]) (fun h => by rw [hk] at h; cases h) (fun _ => hml)
    rw [hk] at h
    have hne : es ++ [.mk kr nr sr isr nsr] ≠ [] := by simp
    rw [Ji (x := x2) hne hk] at h
    by_cases hes : es = []
    ·subst hes
     obtain rfl : i = 0 := by simpa using he.symm
     rw [Hn]
     exact rtF_yyn kr nr sr isr nsr x2 hlt hb' hk r1 (by rw [nx (by omega)]; exact h)
    ·rw [Ji hes hk]
     exact rtA_yyn kr nr sr isr nsr x2 hlt hb' hk r1 (by omega) (by rw [nx (by omega)]; exact h)
end Go.Proofs.Ytmbjojnldbeicaa

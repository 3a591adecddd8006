import Derived.Test.YtegboccilfofmaaGreatLsCodW3
import Derived.Test.YtegboccilfofmaaGreatLsCod5
set_option linter.unusedVariables false
set_option maxRecDepth 100000
set_option linter.unusedSimpArgs false
namespace Go.Proofs.YtegboccilfofmaaGreat
open Go Go.LS
theorem Zm : ∀ v, Bx v = true → ((Az v).length : Int) = Bu v := by
 refine Val.ind fun k n s is ns ih hmay => ?_
 obtain ⟨hm1, hsh⟩ := F2 hmay
 rcases Hu hsh with ⟨rfl, rfl, rfl, hl, rfl⟩ | ⟨rfl, hn2, rfl, hl, rfl⟩ | ⟨rfl, rfl, hl, rfl⟩ | ⟨hk45, rfl, hl, rfl⟩ | ⟨rfl, rfl, rfl, rfl⟩ | ⟨rfl, rfl, rfl, hl⟩
 ·simp [Az, Bu]
 ·simp [Az, Bu]
 ·simp [Az, Bu]; omega
 ·rcases hk45 with rfl | rfl <;> simp [Az, Bu, Cf] <;> omega
 ·have := U9 is [] (fun v hv => ih v hv (hm1 v hv))
  simp [Az, Bu, Cr]; omega
 ·have := Va is ns hl (fun v hv => ih v hv (hm1 v hv))
  simp [Az, Bu, Cr]; omega
theorem Tc : ∀ v, okV v → ∀ d : Int, 0 ≤ d → d ≤ 1000 → Cw d v < 65536 → Bu v ≤ 150000000000000 * Cw d v := by
 refine Val.ind fun k n s is ns ih hok d h0 h1 hlt => ?_
 obtain ⟨_, hn, hs, hil, hnl, hns, his⟩ := Cq hok
 rw [Cw] at hlt ⊢
 by_cases hd : d > 40
 ·rw [if_pos hd] at hlt; omega
 ·rw [if_neg hd, A9 (by omega) (by omega), A9 (by omega) (by omega)] at hlt ⊢
  have key : ∀ l, (∀ v ∈ l, v ∈ is) → ∀ m, 1 ≤ m → C4 (d + 1) m l < 65536 → m < 65536 ∧ B9 l + 150000000000000 * m ≤ 150000000000000 * C4 (d + 1) m l := by
   intro l
   induction l with
   | nil => intro _ m hm h; simp only [C4, B9] at h ⊢; omega
   | cons v r ihr =>
    intro hl m hm h
    have hv := hl v (List.mem_cons_self ..)
    obtain ⟨b1, b2, _⟩ := Jz v (his v hv) (d + 1) (by omega) (by omega)
    rw [C4] at h ⊢
    by_cases hmm : m < 65536
    ·rw [if_pos hmm, A9 (by omega) (by omega)] at h ⊢
     obtain ⟨c1, c2⟩ := ihr (fun w hw => hl w (List.mem_cons_of_mem _ hw)) (m + Cw (d + 1) v) (by omega) h
     have := ih v hv (his v hv) (d + 1) (by omega) (by omega) (by omega)
     rw [B9]
     exact ⟨hmm, by omega⟩
    ·rw [if_neg hmm] at h; omega
  obtain ⟨c1, c2⟩ := key is (fun v h => h) (1 + (ns.length : Int)) (by omega) hlt
  have hnm : ∀ l : List (List UInt8), (∀ x ∈ l, x ∈ ns) → (l.map Cf).sum ≤ 140737488351252 * (l.length : Int) := by
   intro l
   induction l with
   | nil => intro _; simp
   | cons x r ihr =>
    intro h
    have := hns x (h x (by simp)); have := ihr (fun y hy => h y (by simp [hy]))
    have := vcode_len x.length (by omega)
    simp only [List.map_cons, List.sum_cons, Cf, List.length_cons]; omega
  have hN := hnm ns (fun _ h => h)
  have hz := vcode_len (zzN n) (T1 hn.1 hn.2)
  have hsl := vcode_len s.length (by omega)
  have hil2 := vcode_len is.length (by omega)
  have hpos : 0 ≤ B9 is := by
   have : ∀ l : List Val, 0 ≤ B9 l := by
    intro l
    induction l with
    | nil => simp [B9]
    | cons v r ihr => have := F7 v; simp only [B9]; omega
   exact this is
  have hN0 : (0 : Int) ≤ ns.length := by omega
  rw [Bu]
  simp only [Cf, Cr]
  repeat' split
  all_goals omega
theorem Rw {v : Val} (hok : okV v) (h : Cn v = false) : Bk v = Bu v := by
 simp only [Cn, decide_eq_false_iff_not] at h
 have h1 := Tc v hok 0 (by omega) (by omega) (by omega)
 have h2 := F7 v
 unfold Bk
 rw [A9 (by omega) (by omega)]
theorem Fa {v : Val} (h : Av v = 0) : Bx v = true ∧ Ay v ≤ 8 ∧ Bk v ≤ 4096 := by
 unfold Av at h
 split at h
 ·rename_i h1
  split at h
  ·cases h
  ·split at h
   ·cases h
   ·exact ⟨h1, by omega, by omega⟩
 ·cases h
theorem vRd8 (x : Src) (hx : x.1.length ≤ 140737488355328) : Runs lp 39 [.ptr 0 0 0] (sto x) (D4 (Ek x).1, sto (Ek x).2) := by
 have h := vRead 8 (by omega) x hx
 have ho := Zi true 8 x
 unfold Ek
 rcases hv : rdV true 8 x with ⟨⟨k, n, s, is, ns⟩, x2⟩
 rw [hv] at h ho
 refine ifE (vRdA (x := x) (x2 := x2) h (fun _ => Pu _ ho.1 (by have := ho.2; simp only at this; omega))) ?_
 cases hb : x2.2 with
 | true => simp only [if_true, true_or]; rfl
 | false =>
  by_cases hc : Av (.mk k n s is ns) = 0
  ·simp [hc] <;> exact hb
  ·simp [hc] <;> exact ⟨rfl, rfl⟩
theorem O6 {v : Val} (hok : okV v) (hc : Av v = 0) (hs : Bk v = Bu v) (rest : List UInt8) : Ek (Az v ++ rest, false) = (v, rest, false) := by
 obtain ⟨h1, h2, h3⟩ := Fa hc
 have := Zl true v hok h1 (by omega) 8 (by omega) rest
 unfold Ek
 rw [this, if_neg (by simp [hc])]
theorem Fb {v : Val} (hc : Av v = 0) (hs : Bk v = Bu v) : (Az v).length ≤ 4096 := by
 obtain ⟨m1, _, m3⟩ := Fa hc
 have := Zm v m1
 omega
end Go.Proofs.YtegboccilfofmaaGreat

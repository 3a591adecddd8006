import Derived.Test.YtmbjojnldbeicaaLsCodW3
import Derived.Test.YtmbjojnldbeicaaLsCod5
set_option linter.unusedVariables false
set_option linter.unusedSimpArgs false
set_option maxRecDepth 100000
set_option linter.unusedSimpArgs false
namespace Go.Proofs.Ytmbjojnldbeicaa
open Go Go.LS
theorem encC_len : ∀ v, Ce v = true → ((Bu v).length : Int) = Ck v := by
 refine Val.ind fun k n s is ns ih hmay => ?_
 obtain ⟨hm1, hsh⟩ := Ia hmay
 rcases Mf hsh with ⟨rfl, rfl, rfl, hl, rfl⟩ | ⟨rfl, hn2, rfl, hl, rfl⟩ | ⟨rfl, rfl, hl, rfl⟩ | ⟨hk45, rfl, hl, rfl⟩ | ⟨rfl, rfl, rfl, rfl⟩ | ⟨rfl, rfl, rfl, hl⟩
 ·simp [Bu, Ck]
 ·simp [Bu, Ck]
 ·simp [Bu, Ck]; omega
 ·rcases hk45 with rfl | rfl <;> simp [Bu, Ck, Cs] <;> omega
 ·have := Yp is [] (fun v hv => ih v hv (hm1 v hv))
  simp [Bu, Ck, C8]; omega
 ·have := Yq is ns hl (fun v hv => ih v hv (hm1 v hv))
  simp [Bu, Ck, C8]; omega
theorem Vc : ∀ v, okV v → ∀ d : Int, 0 ≤ d → d ≤ 1000 → Df d v < 65536 → Ck v ≤ 150000000000000 * Df d v := by
 refine Val.ind fun k n s is ns ih hok d h0 h1 hlt => ?_
 obtain ⟨_, hn, hs, hil, hnl, hns, his⟩ := Dv hok
 rw [Df] at hlt ⊢
 by_cases hd : d > 40
 ·rw [if_pos hd] at hlt; omega
 ·rw [if_neg hd, A9 (by omega) (by omega), A9 (by omega) (by omega)] at hlt ⊢
  have key : ∀ l, (∀ v ∈ l, v ∈ is) → ∀ m, 1 ≤ m → Dt (d + 1) m l < 65536 → m < 65536 ∧ Co l + 150000000000000 * m ≤ 150000000000000 * Dt (d + 1) m l := by
   intro l
   induction l with
   | nil => intro _ m hm h; simp only [Dt, Co] at h ⊢; omega
   | cons v r ihr =>
    intro hl m hm h
    have hv := hl v (List.mem_cons_self ..)
    obtain ⟨b1, b2, _⟩ := Kn v (his v hv) (d + 1) (by omega) (by omega)
    rw [Dt] at h ⊢
    by_cases hmm : m < 65536
    ·rw [if_pos hmm, A9 (by omega) (by omega)] at h ⊢
     obtain ⟨c1, c2⟩ := ihr (fun w hw => hl w (List.mem_cons_of_mem _ hw)) (m + Df (d + 1) v) (by omega) h
     have := ih v hv (his v hv) (d + 1) (by omega) (by omega) (by omega)
     rw [Co]
     exact ⟨hmm, by omega⟩
    ·rw [if_neg hmm] at h; omega
  obtain ⟨c1, c2⟩ := key is (fun v h => h) (1 + (ns.length : Int)) (by omega) hlt
  have hnm : ∀ l : List (List UInt8), (∀ x ∈ l, x ∈ ns) → (l.map Cs).sum ≤ 140737488351252 * (l.length : Int) := by
   intro l
   induction l with
   | nil => intro _; simp
   | cons x r ihr =>
    intro h
    have := hns x (h x (by simp)); have := ihr (fun y hy => h y (by simp [hy]))
    have := Ef x.length (by omega)
    simp only [List.map_cons, List.sum_cons, Cs, List.length_cons]; omega
  have hN := hnm ns (fun _ h => h)
  have hz := Ef (zzN n) (Wv hn.1 hn.2)
  have hsl := Ef s.length (by omega)
  have hil2 := Ef is.length (by omega)
  have hpos : 0 ≤ Co is := by
   have : ∀ l : List Val, 0 ≤ Co l := by
    intro l
    induction l with
    | nil => simp [Co]
    | cons v r ihr => have := Gv v; simp only [Co]; omega
   exact this is
  have hN0 : (0 : Int) ≤ ns.length := by omega
  rw [Ck]
  simp only [Cs, C8]
  repeat' split
  all_goals omega
theorem sizeW_eq {v : Val} (hok : okV v) (h : Bc v = false) : B8 v = Ck v := by
 simp only [Bc, decide_eq_false_iff_not] at h
 have h1 := Vc v hok 0 (by omega) (by omega) (by omega)
 have h2 := Gv v
 unfold B8
 rw [A9 (by omega) (by omega)]
theorem Oj {v : Val} (h : Bp v = 0) : Ce v = true ∧ Bg v ≤ 8 ∧ B8 v ≤ 4096 := by
 unfold Bp at h
 split at h
 ·rename_i h1
  split at h
  ·cases h
  ·split at h
   ·cases h
   ·exact ⟨h1, by omega, by omega⟩
 ·cases h
theorem vRd8 (x : Src) (hx : x.1.length ≤ 140737488355328) : Runs lp 62 [.ptr 0 0 0] (sto x) (Es (C9 x).1, sto (C9 x).2) := by
 have h := vRead 8 (by omega) x hx
 have ho := rdV_ok true 8 x
 unfold C9
 rcases hv : rdV true 8 x with ⟨⟨k, n, s, is, ns⟩, x2⟩
 rw [hv] at h ho
 refine ifE (vRdA (x := x) (x2 := x2) h (fun _ => Qi _ ho.1 (by have := ho.2; simp only at this; omega))) ?_
 cases hb : x2.2 with
 | true => simp only [if_true, true_or]; rfl
 | false =>
  by_cases hc : Bp (.mk k n s is ns) = 0
  ·simp [hc] <;> exact hb
  ·simp [hc] <;> exact ⟨rfl, rfl⟩
theorem Ys {v : Val} (hok : okV v) (hc : Bp v = 0) (hs : B8 v = Ck v) (rest : List UInt8) : C9 (Bu v ++ rest, false) = (v, rest, false) := by
 obtain ⟨h1, h2, h3⟩ := Oj hc
 have := rdV_back true v hok h1 (by omega) 8 (by omega) rest
 unfold C9
 rw [this, if_neg (by simp [hc])]
theorem Jo {v : Val} (hc : Bp v = 0) (hs : B8 v = Ck v) : (Bu v).length ≤ 4096 := by
 obtain ⟨m1, _, m3⟩ := Oj hc
 have := encC_len v m1
 omega
end Go.Proofs.Ytmbjojnldbeicaa

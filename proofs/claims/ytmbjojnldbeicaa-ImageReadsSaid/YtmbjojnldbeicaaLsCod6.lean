import Derived.Test.YtmbjojnldbeicaaLsCodW3
import Derived.Test.YtmbjojnldbeicaaLsCod5
set_option linter.unusedVariables false
set_option linter.unusedSimpArgs false
set_option maxRecDepth 100000
set_option linter.unusedSimpArgs false
namespace Go.Proofs.Ytmbjojnldbeicaa
open Go Go.LS
theorem vRd8 (x : Src) (hx : x.1.length ≤ 140737488355328) : Runs lp 62 [.ptr 0 0 0] (sto x) (El (A5 x).1, sto (A5 x).2) := by
 have h := vRead 8 (by omega) x hx
 have ho := So true 8 x
 unfold A5
 rcases hv : rdV true 8 x with ⟨⟨k, n, s, is, ns⟩, x2⟩
 rw [hv] at h ho
 refine ifE (vRdA (x := x) (x2 := x2) h (fun _ => vCheck _ ho.1 (by have := ho.2; simp only at this; omega))) ?_
 cases hb : x2.2 with
 | true => simp only [if_true, true_or]; rfl
 | false =>
  by_cases hc : Dz (.mk k n s is ns) = 0
  ·simp [hc] <;> exact hb
  ·simp [hc] <;> exact ⟨rfl, rfl⟩
theorem rRd8 (x : Src) (hx : x.1.length ≤ 140737488355328) : Runs lp 48 [.ptr 0 0 0] (sto x) (El (A5 x).1, sto (A5 x).2) := by
 have h := rRead 8 (by omega) x hx
 have ho := So false 8 x
 obtain ⟨a1, a2⟩ := Vc 8 x
 unfold A5
 cases hx2 : x.2 with
 | true =>
  rw [Q3 true 8 hx2]
  refine ifE (rRdA (k := 0) (n := 0) (s := []) (is := []) (ns := []) (x := x) (x2 := x) (fun h => by rw [hx2] at h; cases h) (fun h => by rw [hx2] at h; cases h)) ?_
  rw [hx2]; simp; first | exact ⟨rfl, rfl⟩ | exact ⟨⟨rfl, rfl⟩, hx2⟩ | exact ⟨by rw [Fs]; rfl, rfl⟩
 | false =>
  rcases hv : rdV false 8 x with ⟨⟨k, n, s, is, ns⟩, x2⟩
  rw [hv] at h ho a1 a2
  refine ifE (rRdA (x := x) (x2 := x2) (fun _ => h) (fun _ _ => rCheck _ ho.1 (by have := ho.2; simp only at this; omega))) ?_
  rw [hx2, if_neg (by decide)]
  simp only at a1
  cases hb : x2.2 with
  | true => rw [a1, hb]; simp only [if_true, true_or]; rfl
  | false =>
   rw [a2 (by rw [a1]; exact hb)]
   by_cases hc : Dz (.mk k n s is ns) = 0
   ·simp [hc, hb]
   ·simp [hc] <;> exact ⟨rfl, rfl⟩
end Go.Proofs.Ytmbjojnldbeicaa

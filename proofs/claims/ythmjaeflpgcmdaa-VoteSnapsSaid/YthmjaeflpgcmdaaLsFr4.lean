import Derived.Test.YthmjaeflpgcmdaaLsFr3
import Derived.Test.YthmjaeflpgcmdaaLsBack
import Derived.KernelRfl
set_option linter.unusedVariables false
set_option linter.unusedSimpArgs false
set_option maxRecDepth 100000
namespace Go.Proofs.Ythmjaeflpgcmdaa
open Go Go.LS
theorem X2 (L R : List UInt8) : ∀ k i u, (Es L k i u).2 ≠ 0 → Es (L ++ R) k i u = Es L k i u := by
 intro k
 induction k with
 | zero => intro i u h; rfl
 | succ k ih =>
  intro i u h
  by_cases hi : i < L.length
  ·have e : (L ++ R).getD i 0 = L.getD i 0 := by rw [List.getD, List.getD, List.getElem?_append_left hi]
   have hi2 : i < (L ++ R).length := by simp; omega
   rw [Es, if_pos hi] at h
   rw [Es, if_pos hi2, e, Es, if_pos hi]
   split
   ·rfl
   ·rename_i h1
    rw [if_neg h1] at h
    split
    ·rfl
    ·rename_i h2
     rw [if_neg h2] at h
     exact ih _ _ h
  ·rw [Es, if_neg hi] at h
   exact absurd rfl h
theorem X3 {L R : List UInt8} (h : B9 L ≠ 0) : B9 (L ++ R) = B9 L ∧ Cn (L ++ R) = Cn L := by
 have := X2 L R 10 0 0 h
 simp [B9, Cn, this]
theorem X4 {b : List UInt8} (h : nok b = true) : B9 b ≠ 0 := by
 simp only [nok, Bool.and_eq_true, Bool.not_eq_true', decide_eq_true_eq] at h
 intro h0
 have := h.1.1
 simp [Af, h0] at this
theorem K1 (x : List UInt8) (rest : List UInt8) : frame x ++ rest = Av x.length ++ (x ++ Cy (Cr (Ic x)) ++ rest) := by
 simp [frame, Ic]
theorem Fk (x : List UInt8) : (frame x).length = (Av x.length).length + x.length + 4 := by
 simp [frame, Ic, Hd]; omega
theorem Id {x : List UInt8} (h : x.length ≤ 65536) (rest : List UInt8) : B9 (frame x ++ rest) = (Av x.length).length ∧ Cn (frame x ++ rest) = x.length := by
 rw [K1]
 exact ⟨M5 (by omega) _, M4 (by omega) _⟩
theorem Ie {x : List UInt8} (h : x.length ≤ 65536) (rest : List UInt8) : Bw (frame x ++ rest) + 4 = (frame x).length := by
 have := Id h rest
 rw [Bw, this.1, this.2, Fk]
theorem Nf {x : List UInt8} (h : x.length ≤ 65536) (rest : List UInt8) : (frame x ++ rest).take (Bw (frame x ++ rest)) = Ic x := by
 have h1 := Ie h rest
 have h2 : Bw (frame x ++ rest) = (Ic x).length := by
  have := Fk x
  simp [Ic]; omega
 rw [h2, frame, List.append_assoc, List.take_left']
 rfl
theorem R0 {x : List UInt8} (h : x.length ≤ 65536) (rest : List UInt8) : Ca (frame x ++ rest) = x := by
 rw [Ca, Nf h, (Id h rest).1, Ic, List.drop_left' rfl]
theorem Vo {x : List UInt8} (h : x.length ≤ 65536) (rest : List UInt8) : nok (frame x ++ rest) = true := by
 have h1 := Ie h rest
 have h2 := Nf h rest
 have h3 : (Af (frame x ++ rest, false) 65536).2.2 = false := by
  rw [K1, Ru (by omega) (by omega)]
 have h4 : (frame x ++ rest).take (Bw (frame x ++ rest) + 4) = frame x := by rw [h1, List.take_left' rfl]
 have h5 : (frame x).drop (Bw (frame x ++ rest)) = Cy (Cr (Ic x)) := by
  have : Bw (frame x ++ rest) = (Ic x).length := by
   have := Fk x
   simp [Ic]; omega
  rw [this, frame, List.drop_left' rfl]
 simp only [nok, Bool.and_eq_true, Bool.not_eq_true', decide_eq_true_eq]
 refine ⟨⟨h3, ?_⟩, ?_⟩
 ·rw [h1]; simp
 ·rw [h2, h4, h5]
theorem X5 {x : List UInt8} (h : x.length ≤ 65536) {m : Nat} (hm : m < (frame x).length) : nok ((frame x).take m) = false := by
 cases hk : nok ((frame x).take m) with
 | false => rfl
 | true =>
  have h0 := X4 hk
  have h1 := Lr hk
  have h2 := X3 (R := (frame x).drop m) h0
  rw [List.take_append_drop] at h2
  have h3 := Id h []
  rw [List.append_nil] at h3
  rw [Bw, ← h2.1, ← h2.2, h3.1, h3.2, List.length_take] at h1
  have := Fk x
  omega
def Da (L : List (List UInt8)) : List UInt8 := (L.map frame).flatten
def wn : List (List UInt8) → Nat → Nat × Nat
 | [], _ => (0, 0)
 | x :: r, n => if (frame x).length ≤ n then ((wn r (n - (frame x).length)).1 + 1, (frame x).length + (wn r (n - (frame x).length)).2) else (0, 0)
theorem Ov : ∀ (k : Nat) (L : List (List UInt8)) (n : Nat), (∀ x ∈ L, x.length ≤ 65536) → L.length < k → Co k ((Da L).take n) = (L.take (wn L n).1, (wn L n).2)
 | 0, L, n, _, h => by omega
 | k + 1, [], n, _, _ => by
  have e : (Da []).take n = [] := by simp [Da]
  rw [e, Co, if_neg (by rw [show nok [] = false by kernel_rfl]; simp)]
  rfl
 | k + 1, x :: r, n, hx, hk => by
  have hx0 := hx x (List.mem_cons_self ..)
  have e : Da (x :: r) = frame x ++ Da r := by simp [Da]
  by_cases hn : (frame x).length ≤ n
  ·have e1 : (Da (x :: r)).take n = frame x ++ (Da r).take (n - (frame x).length) := by
    rw [e, List.take_append, List.take_of_length_le hn]
   rw [e1, Co, if_pos (Vo hx0 _), Ie hx0, R0 hx0, List.drop_left' rfl,
    Ov k r _ (fun y hy => hx y (List.mem_cons_of_mem _ hy)) (by simp at hk; omega)]
   simp [wn, hn]
  ·have e1 : (Da (x :: r)).take n = (frame x).take n := by
    rw [e, List.take_append_of_le_length (by omega)]
   rw [e1, Co, if_neg (by rw [X5 hx0 (by omega)]; simp)]
   simp [wn, hn]
theorem Vp (x : List UInt8) : 4 < (frame x).length := by
 have := Fk x
 have := J2 x.length
 omega
theorem Ng : ∀ (k m : Nat) (b : List UInt8), b.length < k → k ≤ m → Co m b = Co k b
 | 0, _, _, h, _ => by omega
 | k + 1, 0, _, _, h => by omega
 | k + 1, m + 1, b, h, hm => by
  rw [Co, Co]
  by_cases hk : nok b = true
  ·have := Lr hk
   rw [if_pos hk, if_pos hk, Ng k m _ (by rw [List.length_drop]; omega) (by omega)]
  ·rw [if_neg hk, if_neg hk]
theorem Nh : ∀ (L : List (List UInt8)), L.length ≤ (Da L).length
 | [] => by simp
 | x :: r => by
  have := Nh r
  have := Vp x
  simp only [Da, List.map_cons, List.flatten_cons, List.length_append, List.length_cons] at *
  omega
theorem X6 (L : List (List UInt8)) (n : Nat) (hx : ∀ x ∈ L, x.length ≤ 65536) : De ((Da L).take n) = (L.take (wn L n).1, (wn L n).2) := by
 rw [De, ← Ng _ ((Da L).length + 1) _ (Nat.lt_succ_self _) (by rw [List.length_take]; omega)]
 exact Ov _ _ _ hx (by have := Nh L; omega)
end Go.Proofs.Ythmjaeflpgcmdaa

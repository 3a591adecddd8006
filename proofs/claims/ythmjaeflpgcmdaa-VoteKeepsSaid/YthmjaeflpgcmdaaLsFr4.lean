import Derived.Test.YthmjaeflpgcmdaaLsFr3
import Derived.Test.YthmjaeflpgcmdaaLsBack
import Derived.KernelRfl
set_option linter.unusedVariables false
set_option linter.unusedSimpArgs false
set_option maxRecDepth 100000
namespace Go.Proofs.Ythmjaeflpgcmdaa
open Go Go.LS
theorem Y0 (L R : List UInt8) : ∀ k i u, (D7 L k i u).2 ≠ 0 → D7 (L ++ R) k i u = D7 L k i u := by
 intro k
 induction k with
 | zero => intro i u h; rfl
 | succ k ih =>
  intro i u h
  by_cases hi : i < L.length
  ·have e : (L ++ R).getD i 0 = L.getD i 0 := by rw [List.getD, List.getD, List.getElem?_append_left hi]
   have hi2 : i < (L ++ R).length := by simp; omega
   rw [D7, if_pos hi] at h
   rw [D7, if_pos hi2, e, D7, if_pos hi]
   split
   ·rfl
   ·rename_i h1
    rw [if_neg h1] at h
    split
    ·rfl
    ·rename_i h2
     rw [if_neg h2] at h
     exact ih _ _ h
  ·rw [D7, if_neg hi] at h
   exact absurd rfl h
theorem Y1 {L R : List UInt8} (h : By L ≠ 0) : By (L ++ R) = By L ∧ B6 (L ++ R) = B6 L := by
 have := Y0 L R 10 0 0 h
 simp [By, B6, this]
theorem Y2 {b : List UInt8} (h : nok b = true) : By b ≠ 0 := by
 simp only [nok, Bool.and_eq_true, Bool.not_eq_true', decide_eq_true_eq] at h
 intro h0
 have := h.1.1
 simp [Ab, h0] at this
theorem Lh (x : List UInt8) (rest : List UInt8) : frame x ++ rest = Af x.length ++ (x ++ C1 (Ct (Ip x)) ++ rest) := by
 simp [frame, Ip]
theorem Fq (x : List UInt8) : (frame x).length = (Af x.length).length + x.length + 4 := by
 simp [frame, Ip, Hl]; omega
theorem Ir {x : List UInt8} (h : x.length ≤ 65536) (rest : List UInt8) : By (frame x ++ rest) = (Af x.length).length ∧ B6 (frame x ++ rest) = x.length := by
 rw [Lh]
 exact ⟨Io (by omega) _, In (by omega) _⟩
theorem Is {x : List UInt8} (h : x.length ≤ 65536) (rest : List UInt8) : Br (frame x ++ rest) + 4 = (frame x).length := by
 have := Ir h rest
 rw [Br, this.1, this.2, Fq]
theorem Nx {x : List UInt8} (h : x.length ≤ 65536) (rest : List UInt8) : (frame x ++ rest).take (Br (frame x ++ rest)) = Ip x := by
 have h1 := Is h rest
 have h2 : Br (frame x ++ rest) = (Ip x).length := by
  have := Fq x
  simp [Ip]; omega
 rw [h2, frame, List.append_assoc, List.take_left']
 rfl
theorem Sn {x : List UInt8} (h : x.length ≤ 65536) (rest : List UInt8) : Cb (frame x ++ rest) = x := by
 rw [Cb, Nx h, (Ir h rest).1, Ip, List.drop_left' rfl]
theorem We {x : List UInt8} (h : x.length ≤ 65536) (rest : List UInt8) : nok (frame x ++ rest) = true := by
 have h1 := Is h rest
 have h2 := Nx h rest
 have h3 : (Ab (frame x ++ rest, false) 65536).2.2 = false := by
  rw [Lh, Lf (by omega) (by omega)]
 have h4 : (frame x ++ rest).take (Br (frame x ++ rest) + 4) = frame x := by rw [h1, List.take_left' rfl]
 have h5 : (frame x).drop (Br (frame x ++ rest)) = C1 (Ct (Ip x)) := by
  have : Br (frame x ++ rest) = (Ip x).length := by
   have := Fq x
   simp [Ip]; omega
  rw [this, frame, List.drop_left' rfl]
 simp only [nok, Bool.and_eq_true, Bool.not_eq_true', decide_eq_true_eq]
 refine ⟨⟨h3, ?_⟩, ?_⟩
 ·rw [h1]; simp
 ·rw [h2, h4, h5]
theorem Y3 {x : List UInt8} (h : x.length ≤ 65536) {m : Nat} (hm : m < (frame x).length) : nok ((frame x).take m) = false := by
 cases hk : nok ((frame x).take m) with
 | false => rfl
 | true =>
  have h0 := Y2 hk
  have h1 := L8 hk
  have h2 := Y1 (R := (frame x).drop m) h0
  rw [List.take_append_drop] at h2
  have h3 := Ir h []
  rw [List.append_nil] at h3
  rw [Br, ← h2.1, ← h2.2, h3.1, h3.2, List.length_take] at h1
  have := Fq x
  omega
def Bu (L : List (List UInt8)) : List UInt8 := (L.map frame).flatten
def wn : List (List UInt8) → Nat → Nat × Nat
 | [], _ => (0, 0)
 | x :: r, n => if (frame x).length ≤ n then ((wn r (n - (frame x).length)).1 + 1, (frame x).length + (wn r (n - (frame x).length)).2) else (0, 0)
theorem Pc : ∀ (k : Nat) (L : List (List UInt8)) (n : Nat), (∀ x ∈ L, x.length ≤ 65536) → L.length < k → Cp k ((Bu L).take n) = (L.take (wn L n).1, (wn L n).2)
 | 0, L, n, _, h => by omega
 | k + 1, [], n, _, _ => by
  have e : (Bu []).take n = [] := by simp [Bu]
  rw [e, Cp, if_neg (by rw [show nok [] = false by kernel_rfl]; simp)]
  rfl
 | k + 1, x :: r, n, hx, hk => by
  have hx0 := hx x (List.mem_cons_self ..)
  have e : Bu (x :: r) = frame x ++ Bu r := by simp [Bu]
  by_cases hn : (frame x).length ≤ n
  ·have e1 : (Bu (x :: r)).take n = frame x ++ (Bu r).take (n - (frame x).length) := by
    rw [e, List.take_append, List.take_of_length_le hn]
   rw [e1, Cp, if_pos (We hx0 _), Is hx0, Sn hx0, List.drop_left' rfl,
    Pc k r _ (fun y hy => hx y (List.mem_cons_of_mem _ hy)) (by simp at hk; omega)]
   simp [wn, hn]
  ·have e1 : (Bu (x :: r)).take n = (frame x).take n := by
    rw [e, List.take_append_of_le_length (by omega)]
   rw [e1, Cp, if_neg (by rw [Y3 hx0 (by omega)]; simp)]
   simp [wn, hn]
theorem Pd (x : List UInt8) : 4 < (frame x).length := by
 have := Fq x
 have := Hs x.length
 omega
theorem wn_le : ∀ (L : List (List UInt8)) (n : Nat), (wn L n).1 ≤ L.length ∧ (wn L n).2 ≤ n ∧ (wn L n).2 ≤ (Bu L).length ∧ (wn L n).1 ≤ (wn L n).2
 | [], n => by simp [wn]
 | x :: r, n => by
  have h := wn_le r (n - (frame x).length)
  have hp := Pd x
  simp only [wn, Bu, List.map_cons, List.flatten_cons, List.length_append, List.length_cons] at *
  split
  ·simp only; omega
  ·simp
theorem Ny : ∀ (k m : Nat) (b : List UInt8), b.length < k → k ≤ m → Cp m b = Cp k b
 | 0, _, _, h, _ => by omega
 | k + 1, 0, _, _, h => by omega
 | k + 1, m + 1, b, h, hm => by
  rw [Cp, Cp]
  by_cases hk : nok b = true
  ·have := L8 hk
   rw [if_pos hk, if_pos hk, Ny k m _ (by rw [List.length_drop]; omega) (by omega)]
  ·rw [if_neg hk, if_neg hk]
theorem It : ∀ (L : List (List UInt8)), L.length ≤ (Bu L).length
 | [] => by simp
 | x :: r => by
  have := It r
  have := Pd x
  simp only [Bu, List.map_cons, List.flatten_cons, List.length_append, List.length_cons] at *
  omega
theorem Y4 (L : List (List UInt8)) (n : Nat) (hx : ∀ x ∈ L, x.length ≤ 65536) : Iq ((Bu L).take n) = (L.take (wn L n).1, (wn L n).2) := by
 rw [Iq, ← Ny _ ((Bu L).length + 1) _ (Nat.lt_succ_self _) (by rw [List.length_take]; omega)]
 exact Pc _ _ _ hx (by have := It L; omega)
end Go.Proofs.Ythmjaeflpgcmdaa

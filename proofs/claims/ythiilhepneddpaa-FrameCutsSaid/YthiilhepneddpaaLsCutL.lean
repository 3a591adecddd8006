/- Of frames cut off just the whole ones stand: plain law. -/
import Derived.Test.YthiilhepneddpaaLsRunScans
import Derived.Test.YthiilhepneddpaaLsBack
set_option linter.unusedVariables false
set_option linter.unusedSimpArgs false
namespace Go.Proofs.Ythiilhepneddpaa
open Go Go.LS

theorem gdec_ext (L R : List UInt8) : ∀ k i u, (gdec L k i u).2 ≠ 0 → gdec (L ++ R) k i u = gdec L k i u := by
  intro k
  induction k with
  | zero => intro i u h; rfl
  | succ k ih =>
    intro i u h
    by_cases hi : i < L.length
    · have e : (L ++ R).getD i 0 = L.getD i 0 := by rw [List.getD, List.getD, List.getElem?_append_left hi]
      have hi2 : i < (L ++ R).length := by simp; omega
      rw [gdec, if_pos hi] at h
      rw [gdec, if_pos hi2, e, gdec, if_pos hi]
      split
      · rfl
      · rename_i h1
        rw [if_neg h1] at h
        split
        · rfl
        · rename_i h2
          rw [if_neg h2] at h
          exact ih _ _ h
    · rw [gdec, if_neg hi] at h
      exact absurd rfl h

theorem glen_ext {L R : List UInt8} (h : glen L ≠ 0) : glen (L ++ R) = glen L ∧ gnum (L ++ R) = gnum L := by
  have := gdec_ext L R 10 0 0 h
  simp [glen, gnum, this]

theorem nok_glen {b : List UInt8} (h : nok b = true) : glen b ≠ 0 := by
  simp only [nok, Bool.and_eq_true, Bool.not_eq_true', decide_eq_true_eq] at h
  intro h0
  have := h.1.1
  simp [sCount, h0] at this

theorem frame_split (x : List UInt8) (rest : List UInt8) : frame x ++ rest = vcode x.length ++ (x ++ four (crcS (fpre x)) ++ rest) := by
  simp [frame, fpre]
theorem frame_len (x : List UInt8) : (frame x).length = (vcode x.length).length + x.length + 4 := by
  simp [frame, fpre, four_len]; omega
theorem glen_frame {x : List UInt8} (h : x.length ≤ 65536) (rest : List UInt8) : glen (frame x ++ rest) = (vcode x.length).length ∧ gnum (frame x ++ rest) = x.length := by
  rw [frame_split]
  exact ⟨glen_vcode (by omega) _, gnum_vcode (by omega) _⟩
theorem nend_frame {x : List UInt8} (h : x.length ≤ 65536) (rest : List UInt8) : nend (frame x ++ rest) + 4 = (frame x).length := by
  have := glen_frame h rest
  rw [nend, this.1, this.2, frame_len]
theorem take_frame {x : List UInt8} (h : x.length ≤ 65536) (rest : List UInt8) : (frame x ++ rest).take (nend (frame x ++ rest)) = fpre x := by
  have h1 := nend_frame h rest
  have h2 : nend (frame x ++ rest) = (fpre x).length := by
    have := frame_len x
    simp [fpre]; omega
  rw [h2, frame, List.append_assoc, List.take_left']
  rfl
theorem nbody_frame {x : List UInt8} (h : x.length ≤ 65536) (rest : List UInt8) : nbody (frame x ++ rest) = x := by
  rw [nbody, take_frame h, (glen_frame h rest).1, fpre, List.drop_left' rfl]
theorem nok_frame {x : List UInt8} (h : x.length ≤ 65536) (rest : List UInt8) : nok (frame x ++ rest) = true := by
  have h1 := nend_frame h rest
  have h2 := take_frame h rest
  have h3 : (sCount (frame x ++ rest, false) 65536).2.2 = false := by
    rw [frame_split, sCount_back (by omega) (by omega)]
  have h4 : (frame x ++ rest).take (nend (frame x ++ rest) + 4) = frame x := by rw [h1, List.take_left' rfl]
  have h5 : (frame x).drop (nend (frame x ++ rest)) = four (crcS (fpre x)) := by
    have : nend (frame x ++ rest) = (fpre x).length := by
      have := frame_len x
      simp [fpre]; omega
    rw [this, frame, List.drop_left' rfl]
  simp only [nok, Bool.and_eq_true, Bool.not_eq_true', decide_eq_true_eq]
  refine ⟨⟨h3, ?_⟩, ?_⟩
  · rw [h1]; simp
  · rw [h2, h4, h5]
theorem nok_part {x : List UInt8} (h : x.length ≤ 65536) {m : Nat} (hm : m < (frame x).length) : nok ((frame x).take m) = false := by
  cases hk : nok ((frame x).take m) with
  | false => rfl
  | true =>
    have h0 := nok_glen hk
    have h1 := nend_le hk
    have h2 := glen_ext (R := (frame x).drop m) h0
    rw [List.take_append_drop] at h2
    have h3 := glen_frame h []
    rw [List.append_nil] at h3
    rw [nend, ← h2.1, ← h2.2, h3.1, h3.2, List.length_take] at h1
    have := frame_len x
    omega

def joined (L : List (List UInt8)) : List UInt8 := (L.map frame).flatten
/-- How many frames are whole, and their size. -/
def wn : List (List UInt8) → Nat → Nat × Nat
  | [], _ => (0, 0)
  | x :: r, n => if (frame x).length ≤ n then ((wn r (n - (frame x).length)).1 + 1, (frame x).length + (wn r (n - (frame x).length)).2) else (0, 0)
theorem scanF_cut : ∀ (k : Nat) (L : List (List UInt8)) (n : Nat), (∀ x ∈ L, x.length ≤ 65536) → L.length < k → scanF k ((joined L).take n) = (L.take (wn L n).1, (wn L n).2)
  | 0, L, n, _, h => by omega
  | k + 1, [], n, _, _ => by
    have e : (joined []).take n = [] := by simp [joined]
    rw [e, scanF, if_neg (by rw [show nok [] = false by kernel_rfl]; simp)]
    rfl
  | k + 1, x :: r, n, hx, hk => by
    have hx0 := hx x (List.mem_cons_self ..)
    have e : joined (x :: r) = frame x ++ joined r := by simp [joined]
    by_cases hn : (frame x).length ≤ n
    · have e1 : (joined (x :: r)).take n = frame x ++ (joined r).take (n - (frame x).length) := by
        rw [e, List.take_append, List.take_of_length_le hn]
      rw [e1, scanF, if_pos (nok_frame hx0 _), nend_frame hx0, nbody_frame hx0, List.drop_left' rfl,
        scanF_cut k r _ (fun y hy => hx y (List.mem_cons_of_mem _ hy)) (by simp at hk; omega)]
      simp [wn, hn]
    · have e1 : (joined (x :: r)).take n = (frame x).take n := by
        rw [e, List.take_append_of_le_length (by omega)]
      rw [e1, scanF, if_neg (by rw [nok_part hx0 (by omega)]; simp)]
      simp [wn, hn]
theorem frame_pos (x : List UInt8) : 4 < (frame x).length := by
  have := frame_len x
  have := vcode_pos x.length
  omega
theorem wn_le : ∀ (L : List (List UInt8)) (n : Nat), (wn L n).1 ≤ L.length ∧ (wn L n).2 ≤ n ∧ (wn L n).2 ≤ (joined L).length ∧ (wn L n).1 ≤ (wn L n).2
  | [], n => by simp [wn]
  | x :: r, n => by
    have h := wn_le r (n - (frame x).length)
    have hp := frame_pos x
    simp only [wn, joined, List.map_cons, List.flatten_cons, List.length_append, List.length_cons] at *
    split
    · simp only; omega
    · simp
theorem scanF_more : ∀ (k m : Nat) (b : List UInt8), b.length < k → k ≤ m → scanF m b = scanF k b
  | 0, _, _, h, _ => by omega
  | k + 1, 0, _, _, h => by omega
  | k + 1, m + 1, b, h, hm => by
    rw [scanF, scanF]
    by_cases hk : nok b = true
    · have := nend_le hk
      rw [if_pos hk, if_pos hk, scanF_more k m _ (by rw [List.length_drop]; omega) (by omega)]
    · rw [if_neg hk, if_neg hk]
theorem joined_len : ∀ (L : List (List UInt8)), L.length ≤ (joined L).length
  | [] => by simp
  | x :: r => by
    have := joined_len r
    have := frame_pos x
    simp only [joined, List.map_cons, List.flatten_cons, List.length_append, List.length_cons] at *
    omega
theorem scan_cut (L : List (List UInt8)) (n : Nat) (hx : ∀ x ∈ L, x.length ≤ 65536) : scan ((joined L).take n) = (L.take (wn L n).1, (wn L n).2) := by
  rw [scan, ← scanF_more _ ((joined L).length + 1) _ (Nat.lt_succ_self _) (by rw [List.length_take]; omega)]
  exact scanF_cut _ _ _ hx (by have := joined_len L; omega)
end Go.Proofs.Ythiilhepneddpaa

import Derived.Test.YtmflmbfheaaglaaLsCod4
set_option linter.unusedVariables false
set_option maxRecDepth 100000
set_option linter.unusedSimpArgs false
namespace Go.Proofs.Ytmflmbfheaaglaa
open Go Go.LS
theorem u8_toNat {k : Int} (h : 0 ≤ k ∧ k ≤ 255) : ((u8 k).toNat : Int) = k := by
  obtain ⟨n, rfl⟩ : ∃ n : Nat, k = n := ⟨k.toNat, by omega⟩
  have : n < 256 := by omega
  simp [u8, wrap8, Nat.mod_eq_of_lt this]
theorem sByte_back {k : Int} (h : 0 ≤ k ∧ k ≤ 255) (rest : List UInt8) : sByte (u8 k :: rest, false) = (k, rest, false) := by
  rw [sByte, if_neg (by simp)]
  simp only [List.getD_cons_zero, u8_toNat h, List.drop_succ_cons, List.drop_zero]
theorem rdI_back {f : Src → Val × Src} (doc : Bool) : ∀ (is : List Val) (ns : List (List UInt8)) (es : List Val) (ms : List (List UInt8)) (rest : List UInt8),
    (∀ v ∈ is, ∀ r, f (encC v ++ r, false) = (v, r, false)) → (doc = true → ns.length = is.length ∧ ∀ m ∈ ns, m.length ≤ 32) → (doc = false → ns = []) →
    rdI f doc is.length es ms (encL doc is ns ++ rest, false) = (es ++ is, ms ++ ns, rest, false)
  | [], ns, es, ms, rest, hf, h1, h2 => by
    have : ns = [] := by
      cases doc with
      | true => exact List.eq_nil_of_length_eq_zero (h1 rfl).1
      | false => exact h2 rfl
    subst this; simp [rdI, encL]
  | v :: r, ns, es, ms, rest, hf, h1, h2 => by
    rw [List.length_cons, rdI, if_neg (by simp)]
    cases doc with
    | true =>
      obtain ⟨hl, hm⟩ := h1 rfl
      cases ns with
      | nil => simp at hl
      | cons n q =>
        have e : encL true (v :: r) (n :: q) ++ rest = vcode n.length ++ n ++ (encC v ++ (encL true r q ++ rest)) := by simp [encL]
        have hn := hm n (by simp)
        rw [if_pos rfl, e, sText_back (by omega) (by omega), hf v (by simp)]
        have := rdI_back (f := f) true r q (es ++ [v]) (ms ++ [n]) rest (fun w hw => hf w (by simp [hw])) (fun _ => ⟨by simpa using hl, fun m hm' => hm m (by simp [hm'])⟩) (fun h => by cases h)
        rw [this]; simp
    | false =>
      obtain rfl := h2 rfl
      have e : encL false (v :: r) [] ++ rest = encC v ++ (encL false r [] ++ rest) := by simp [encL]
      rw [if_neg (by decide), e, hf v (by simp)]
      have := rdI_back (f := f) false r [] (es ++ [v]) ms rest (fun w hw => hf w (by simp [hw])) (fun h => by cases h) (fun _ => rfl)
      rw [this]; simp
theorem sizeV_pos : ∀ v, 1 ≤ sizeV v := by
  refine Val.ind fun k n s is ns ih => ?_
  have h0 : ∀ l, (∀ v ∈ l, v ∈ is) → 0 ≤ sizeL l := by
    intro l
    induction l with
    | nil => intro _; simp [sizeL]
    | cons v r ihr => intro h; have := ih v (h v (by simp)); have := ihr (fun w hw => h w (by simp [hw])); simp only [sizeL]; omega
  have h1 := h0 is (fun _ h => h)
  have h2 : ∀ l : List (List UInt8), 0 ≤ (l.map tlenN).sum := by
    intro l
    induction l with
    | nil => simp
    | cons x r ihr => simp only [List.map_cons, List.sum_cons, tlenN]; omega
  have := h2 ns
  rw [sizeV]
  simp only [tlenN, clenN]
  repeat' split
  all_goals omega
theorem sizeL_mem {l : List Val} {v : Val} (h : v ∈ l) : sizeV v ≤ sizeL l := by
  induction l with
  | nil => cases h
  | cons x r ih =>
    have h0 : ∀ l : List Val, 0 ≤ sizeL l := by
      intro l
      induction l with
      | nil => simp [sizeL]
      | cons v r ihr => have := sizeV_pos v; simp only [sizeL]; omega
    have := h0 r
    have := sizeV_pos x
    rw [sizeL]
    rcases List.mem_cons.1 h with rfl | h
    · omega
    · have := ih h; omega
theorem sizeL_len : ∀ l : List Val, (l.length : Int) ≤ sizeL l
  | [] => by simp [sizeL]
  | v :: r => by have := sizeL_len r; have := sizeV_pos v; simp only [sizeL, List.length_cons]; omega
theorem nameB_len {m : List UInt8} (h : nameB m = true) : m.length ≤ 32 := by
  simp only [nameB, Bool.and_eq_true, decide_eq_true_eq] at h; omega
theorem mayV_names {k n : Int} {s : List UInt8} {is : List Val} {ns : List (List UInt8)} (h : mayV (.mk k n s is ns) = true) : ∀ m ∈ ns, m.length ≤ 32 := by
  simp only [mayV, Bool.and_eq_true, List.all_eq_true] at h
  intro m hm
  exact nameB_len (h.1.2 m hm)
theorem shape_parts {k n : Int} {s : List UInt8} {l : Nat} {ns : List (List UInt8)} (h : shapeB k n s l ns = true) :
    (k = 1 ∧ n = 0 ∧ s = [] ∧ l = 0 ∧ ns = []) ∨ (k = 2 ∧ (0 ≤ n ∧ n ≤ 1) ∧ s = [] ∧ l = 0 ∧ ns = []) ∨ (k = 3 ∧ s = [] ∧ l = 0 ∧ ns = []) ∨ ((k = 4 ∨ k = 5) ∧ n = 0 ∧ l = 0 ∧ ns = []) ∨ (k = 6 ∧ n = 0 ∧ s = [] ∧ ns = []) ∨ (k = 7 ∧ n = 0 ∧ s = [] ∧ ns.length = l) := by
  unfold shapeB at h
  by_cases h1 : k = 1
  · subst h1; simp at h; simp [h]
  · by_cases h2 : k = 2
    · subst h2; simp at h; simp [h]
    · by_cases h3 : k = 3
      · subst h3; simp at h; simp [h]
      · by_cases h4 : k = 4 ∨ k = 5
        · have h4' : (k == 4 || k == 5) = true := by simpa using h4
          rw [if_neg (by simpa using h1), if_neg (by simpa using h2), if_neg (by simpa using h3), if_pos h4'] at h
          simp at h
          exact .inr (.inr (.inr (.inl ⟨h4, by simp [h]⟩)))
        · have h4' : ¬ (k == 4 || k == 5) = true := by simpa using h4
          rw [if_neg (by simpa using h1), if_neg (by simpa using h2), if_neg (by simpa using h3), if_neg h4'] at h
          by_cases h6 : k = 6
          · subst h6; simp at h; simp [h]
          · by_cases h7 : k = 7
            · subst h7; simp at h; simp [h]
            · rw [if_neg (by simpa using h6), if_neg (by simpa using h7)] at h; cases h
theorem rdV_back (p : Bool) : ∀ v, okV v → mayV v = true → sizeV v ≤ 4096 → ∀ d : Nat, depthV v ≤ d → ∀ rest, rdV p d (encC v ++ rest, false) = (v, rest, false) := by
  refine Val.ind fun k n s is ns ih hok hmay hsz d hd rest => ?_
  obtain ⟨hk, hn, hs, hil, hnl, hns, his⟩ := okV_inv hok
  obtain ⟨hm1, hsh⟩ := mayV_inv hmay
  have hpos := depthV_pos (.mk k n s is ns)
  obtain ⟨d, rfl⟩ : ∃ e, d = e + 1 := ⟨d - 1, by omega⟩
  rcases shape_parts hsh with ⟨rfl, rfl, rfl, hl, rfl⟩ | ⟨rfl, hn2, rfl, hl, rfl⟩ | ⟨rfl, rfl, hl, rfl⟩ | ⟨hk45, rfl, hl, rfl⟩ | ⟨rfl, rfl, rfl, rfl⟩ | ⟨rfl, rfl, rfl, hl⟩
  · obtain rfl := List.eq_nil_of_length_eq_zero hl
    have e : encC (.mk 1 0 [] [] []) ++ rest = u8 1 :: rest := by simp [encC]
    rw [e]; simp only [rdV, sByte_back (k := 1) (by omega)]; rfl
  · obtain rfl := List.eq_nil_of_length_eq_zero hl
    have e : encC (.mk 2 n [] [] []) ++ rest = u8 2 :: u8 n :: rest := by simp [encC]
    rw [e]; simp only [rdV, sByte_back (k := 2) (by omega), sByte_back (k := n) (by omega)]; rfl
  · obtain rfl := List.eq_nil_of_length_eq_zero hl
    have e : encC (.mk 3 n [] [] []) ++ rest = u8 3 :: (vcode (zz n) ++ rest) := by simp [encC]; rfl
    rw [e]; simp only [rdV, sByte_back (k := 3) (by omega), sInt_back hn.1 hn.2]; rfl
  · obtain rfl := List.eq_nil_of_length_eq_zero hl
    have hs4 : s.length ≤ 4096 := by rcases hk45 with rfl | rfl <;> (simp [sizeV, tlenN] at hsz; omega)
    have e : encC (.mk k 0 s [] []) ++ rest = u8 k :: (vcode s.length ++ s ++ rest) := by rcases hk45 with rfl | rfl <;> simp [encC]
    rw [e]; rcases hk45 with rfl | rfl
    · simp only [rdV, sByte_back (k := 4) (by omega), sText_back (s := s) (most := 4096) (by omega) (by omega)]; rfl
    · simp only [rdV, sByte_back (k := 5) (by omega), sText_back (s := s) (most := 4096) (by omega) (by omega)]; rfl
  · have hsl : 1 + clenN is.length + sizeL is ≤ 4096 := by simpa [sizeV] using hsz
    have hdl : depthL is ≤ d := by rw [depthV] at hd; omega
    have hlen := sizeL_len is
    have hcl : 0 ≤ clenN is.length := by unfold clenN; omega
    have e : encC (.mk 6 0 [] is []) ++ rest = u8 6 :: (vcode is.length ++ (encL false is [] ++ rest)) := by simp [encC]
    have hr := rdI_back (f := rdV p d) false is [] [] [] rest (fun v hv r => ih v hv (his v hv) (hm1 v hv) (by have := sizeL_mem hv; omega) d (by have := depthL_mem hv; omega) r) (fun h => by cases h) (fun _ => rfl)
    rw [e]
    simp only [rdV, sByte_back (k := 6) (by omega), sCount_back (n := is.length) (most := 4096) (by omega) (by omega), Int.toNat_natCast]
    rw [show ((6 : Int) == 7) = false from rfl, hr]; rfl
  · have hsl : 1 + clenN is.length + sizeL is + (ns.map tlenN).sum ≤ 4096 := by simpa [sizeV] using hsz
    have h2 : ∀ l : List (List UInt8), 0 ≤ (l.map tlenN).sum := by
      intro l
      induction l with
      | nil => simp
      | cons x r ihr => simp only [List.map_cons, List.sum_cons, tlenN]; omega
    have := h2 ns
    have hdl : depthL is ≤ d := by rw [depthV] at hd; omega
    have hlen := sizeL_len is
    have hcl : 0 ≤ clenN is.length := by unfold clenN; omega
    have e : encC (.mk 7 0 [] is ns) ++ rest = u8 7 :: (vcode is.length ++ (encL true is ns ++ rest)) := by simp [encC]
    have hr := rdI_back (f := rdV p d) true is ns [] [] rest (fun v hv r => ih v hv (his v hv) (hm1 v hv) (by have := sizeL_mem hv; omega) d (by have := depthL_mem hv; omega) r) (fun _ => ⟨hl, mayV_names hmay⟩) (fun h => by cases h)
    rw [e]
    simp only [rdV, sByte_back (k := 7) (by omega), sCount_back (n := is.length) (most := 4096) (by omega) (by omega), Int.toNat_natCast]
    rw [show ((7 : Int) == 7) = true from rfl, hr]; rfl
end Go.Proofs.Ytmflmbfheaaglaa

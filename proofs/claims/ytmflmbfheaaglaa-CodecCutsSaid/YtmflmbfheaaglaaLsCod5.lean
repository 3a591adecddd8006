import Derived.Test.YtmflmbfheaaglaaLsCod4
set_option linter.unusedVariables false
set_option maxRecDepth 100000
set_option linter.unusedSimpArgs false
namespace Go.Proofs.Ytmflmbfheaaglaa
open Go Go.LS
theorem ofNat_getD {L : List UInt8} {i : Nat} (h : i < L.length) : UInt8.ofNat (L.getD i 0).toNat = L[i] := by
  rw [List.getD_eq_getElem?_getD, List.getElem?_eq_getElem h]; simp
theorem gdec_code (L : List UInt8) : ∀ k i acc, (gdec L k i acc).2 ≠ 0 → ∃ w, (gdec L k i acc).1 = acc + w * 2 ^ (7 * i) ∧ (0 < i → 0 < w) ∧ i < (gdec L k i acc).2 ∧ (L.drop i).take ((gdec L k i acc).2 - i) = vcode w := by
  intro k
  induction k with
  | zero => intro i acc h; exact absurd rfl h
  | succ k ih =>
    intro i acc h
    rw [gdec] at h ⊢
    split at h
    · rename_i hi
      rw [if_pos hi]
      split at h
      · exact absurd rfl h
      · rename_i hz
        rw [if_neg hz]
        simp only [not_or, not_and] at hz
        generalize hc : (L.getD i 0).toNat = c at *
        have hL : L[i] = UInt8.ofNat c := by rw [← hc, ofNat_getD hi]
        have hc256 : c < 256 := by rw [← hc]; exact (L.getD i 0).toNat_lt
        split at h
        · rename_i h128
          rw [if_pos h128]
          refine ⟨c, rfl, fun h0 => ?_, Nat.lt_succ_self _, ?_⟩
          · have := hz.2 h0; omega
          · rw [show i + 1 - i = 1 by omega, List.drop_eq_getElem_cons hi, vcode, if_pos h128, hL]; rfl
        · rename_i h128
          rw [if_neg h128]
          obtain ⟨w, e1, e2, e3, e4⟩ := ih (i + 1) (acc + c % 128 * 2 ^ (7 * i)) h
          have hw := e2 (by omega)
          refine ⟨c % 128 + w * 128, ?_, fun _ => by omega, by omega, ?_⟩
          · rw [e1, Nat.add_mul, Nat.add_assoc, show 7 * (i + 1) = 7 + 7 * i by omega, Nat.pow_add, ← Nat.mul_assoc]
          · generalize (gdec L k (i + 1) (acc + c % 128 * 2 ^ (7 * i))).2 = n at *
            rw [show n - i = (n - (i + 1)) + 1 by omega, List.drop_eq_getElem_cons hi, List.take_succ_cons, e4]
            conv => rhs; rw [vcode, if_neg (by omega)]
            rw [show (c % 128 + w * 128) % 128 = c % 128 by omega, show (c % 128 + w * 128) / 128 = w by omega, hL]
            rw [show c % 128 + 128 = c by omega]
    · exact absurd rfl h
theorem glen_code {L : List UInt8} (h : glen L ≠ 0) : vcode (gnum L) ++ L.drop (glen L) = L := by
  obtain ⟨w, e1, _, _, e4⟩ := gdec_code L 10 0 0 h
  have : gnum L = w := by rw [gnum, e1]; simp
  rw [this, ← e4]
  simp [glen]
theorem zz_unzz (u : Nat) : zz (unzz u) = u := by
  unfold zz unzz
  split <;> split <;> omega
theorem sByte_code {x : Src} (h : (sByte x).2.2 = false) : x.2 = false ∧ u8 (sByte x).1 :: (sByte x).2.1 = x.1 := by
  unfold sByte at h ⊢
  split at h
  · cases h
  · rename_i hx
    rw [if_neg hx]
    simp only [not_or] at hx
    obtain ⟨L, b⟩ := x
    cases L with
    | nil => exact absurd rfl hx.2
    | cons c r =>
      refine ⟨by simpa using hx.1, ?_⟩
      have := c.toNat_lt
      simp [u8, wrap8, Nat.mod_eq_of_lt this]
theorem sInt_code {x : Src} (h : (sInt x).2.2 = false) : x.2 = false ∧ vcode (zzN (sInt x).1) ++ (sInt x).2.1 = x.1 := by
  unfold sInt at h ⊢
  split at h
  · cases h
  · rename_i hx
    rw [if_neg hx]
    simp only [not_or] at hx
    refine ⟨by simpa using hx.1, ?_⟩
    simp only
    rw [← zz_eq, zz_unzz]; exact glen_code hx.2
theorem sCount_code {x : Src} {m : Int} (h : (sCount x m).2.2 = false) : x.2 = false ∧ vcode (sCount x m).1.toNat ++ (sCount x m).2.1 = x.1 := by
  unfold sCount at h ⊢
  split at h
  · cases h
  · rename_i hx
    rw [if_neg hx]
    simp only [not_or] at hx
    exact ⟨by simpa using hx.1, glen_code hx.2.1⟩
theorem sText_code {x : Src} {m : Int} (h : (sText x m).2.2 = false) : x.2 = false ∧ vcode (sText x m).1.length ++ (sText x m).1 ++ (sText x m).2.1 = x.1 := by
  unfold sText at h ⊢
  split at h
  · cases h
  · rename_i hx
    rw [if_neg hx]
    simp only [not_or] at hx
    refine ⟨by simpa using hx.1, ?_⟩
    simp only
    have e : ((x.1.drop (glen x.1)).take (gnum x.1)).length = gnum x.1 := by rw [List.length_take, List.length_drop]; omega
    rw [e, List.append_assoc, ← List.drop_drop, List.take_append_drop]; exact glen_code hx.2.1
theorem rdI_code {f : Src → Val × Src} (hf : ∀ x, (f x).2.2 = false → x.2 = false ∧ encC (f x).1 ++ (f x).2.1 = x.1) (hb : ∀ x, x.2 = true → (f x).2.2 = true) (doc : Bool) : ∀ (j : Nat) (es : List Val) (ms : List (List UInt8)) (x : Src), (rdI f doc j es ms x).2.2.2 = false →
    x.2 = false ∧ ∃ is ns, (rdI f doc j es ms x).1 = es ++ is ∧ (rdI f doc j es ms x).2.1 = ms ++ ns ∧ is.length = j ∧ encL doc is ns ++ (rdI f doc j es ms x).2.2.1 = x.1
  | 0, es, ms, x, h => ⟨h, [], [], by simp [rdI], by simp [rdI], rfl, by simp [rdI, encL]⟩
  | j + 1, es, ms, x, h => by
    simp only [rdI] at h ⊢
    cases hx : x.2 with
    | true => rw [if_pos hx] at h; rw [hx] at h; cases h
    | false =>
      rw [if_neg (by simp [hx])] at h
      rw [if_neg (by simp)]
      cases doc with
      | true =>
        simp only [if_true] at h ⊢
        obtain ⟨h1, is, ns, e1, e2, e3, e4⟩ := rdI_code hf hb true j _ _ _ h
        obtain ⟨h2, e5⟩ := hf _ h1
        obtain ⟨h3, e6⟩ := sText_code h2
        refine ⟨trivial, (f (sText x 32).2).1 :: is, (sText x 32).1 :: ns, by rw [e1]; simp, by rw [e2]; simp, by simp [e3], ?_⟩
        simp only [encL, if_true, List.headD_cons, List.tail_cons, List.append_assoc]
        rw [e4, e5, ← List.append_assoc, e6]
      | false =>
        simp only [Bool.false_eq_true, if_false] at h ⊢
        obtain ⟨h1, is, ns, e1, e2, e3, e4⟩ := rdI_code hf hb false j _ _ _ h
        obtain ⟨h2, e5⟩ := hf _ h1
        refine ⟨trivial, (f x).1 :: is, ns, by rw [e1]; simp, e2, by simp [e3], ?_⟩
        simp only [encL, Bool.false_eq_true, if_false, List.nil_append, List.append_assoc]
        rw [encL_ns is ns.tail ns, e4, e5]
theorem rdV_code (p : Bool) : ∀ (d : Nat) (x : Src), (rdV p d x).2.2 = false → x.2 = false ∧ encC (rdV p d x).1 ++ (rdV p d x).2.1 = x.1 := by
  intro d
  induction d with
  | zero => intro x h; cases h
  | succ d ih =>
    intro x
    simp only [rdV]
    split
    · rename_i h1
      intro h; obtain ⟨a, b⟩ := sByte_code h
      exact ⟨a, by simp only [encC, h1, if_true]; simpa using b⟩
    · rename_i h1
      split
      · rename_i h2
        intro h; obtain ⟨a2, b2⟩ := sByte_code h; obtain ⟨a, b⟩ := sByte_code a2
        exact ⟨a, by simp only [encC, h1, h2, if_true, if_false, Bool.false_eq_true]; rw [← b, ← b2]; simp⟩
      · rename_i h2
        split
        · rename_i h3
          intro h; obtain ⟨a2, b2⟩ := sInt_code h; obtain ⟨a, b⟩ := sByte_code a2
          exact ⟨a, by simp only [encC, h1, h2, h3, if_true, if_false, Bool.false_eq_true]; rw [← b, ← b2]; simp⟩
        · rename_i h3
          split
          · rename_i h4
            intro h; obtain ⟨a2, b2⟩ := sText_code h; obtain ⟨a, b⟩ := sByte_code a2
            have h4' : ((sByte x).1 == 4 || (sByte x).1 == 5) = true := by simpa using h4
            exact ⟨a, by simp only [encC, h1, h2, h3, h4', if_true, if_false, Bool.false_eq_true]; rw [← b, ← b2]; simp⟩
          · rename_i h4
            have h4' : ((sByte x).1 == 4 || (sByte x).1 == 5) = false := by simpa using h4
            split
            · intro h
              obtain ⟨a1, is, ns, e1, e2, e3, e4⟩ := rdI_code ih (fun y hy => by rw [rdV_true _ _ hy]) _ _ _ _ _ h
              obtain ⟨a2, b2⟩ := sCount_code a1; obtain ⟨a, b⟩ := sByte_code a2
              refine ⟨a, ?_⟩
              simp only [encC, h1, h2, h3, h4', if_true, if_false, Bool.false_eq_true]
              simp only [List.nil_append] at e1 e2
              rw [e1, e2, e3, List.cons_append, List.append_assoc, e4, b2, b]
            · intro h; cases h
theorem u8_toNat {k : Int} (h : 0 ≤ k ∧ k ≤ 255) : ((u8 k).toNat : Int) = k := by
  obtain ⟨n, rfl⟩ : ∃ n : Nat, k = n := ⟨k.toNat, by omega⟩
  have : n < 256 := by omega
  simp [u8, wrap8, Nat.mod_eq_of_lt this]
theorem sByte_back {k : Int} (h : 0 ≤ k ∧ k ≤ 255) (rest : List UInt8) : sByte (u8 k :: rest, false) = (k, rest, false) := by
  rw [sByte, if_neg (by simp)]
  simp only [List.getD_cons_zero, u8_toNat h, List.drop_succ_cons, List.drop_zero]
theorem rdI_back {f : Src → Val × Src} (doc : Bool) : ∀ (is : List Val) (ns : List (List UInt8)) (es : List Val) (ms : List (List UInt8)) (rest : List UInt8),
    (∀ v ∈ is, ∀ r, f (encC v ++ r, false) = (v, r, false)) → (doc = true → ns.length = is.length ∧ ∀ m ∈ ns, m.length ≤ 32) → (doc = false → ns = []) →
    rdI f doc is.length es ms (encL doc is ns ++ rest, false) = (es ++ is, ms ++ ns, rest, false)
  | [], ns, es, ms, rest, hf, h1, h2 => by
    have : ns = [] := by
      cases doc with
      | true => exact List.eq_nil_of_length_eq_zero (h1 rfl).1
      | false => exact h2 rfl
    subst this; simp [rdI, encL]
  | v :: r, ns, es, ms, rest, hf, h1, h2 => by
    rw [List.length_cons, rdI, if_neg (by simp)]
    cases doc with
    | true =>
      obtain ⟨hl, hm⟩ := h1 rfl
      cases ns with
      | nil => simp at hl
      | cons n q =>
        have e : encL true (v :: r) (n :: q) ++ rest = vcode n.length ++ n ++ (encC v ++ (encL true r q ++ rest)) := by simp [encL]
        have hn := hm n (by simp)
        rw [if_pos rfl, e, sText_back (by omega) (by omega), hf v (by simp)]
        have := rdI_back (f := f) true r q (es ++ [v]) (ms ++ [n]) rest (fun w hw => hf w (by simp [hw])) (fun _ => ⟨by simpa using hl, fun m hm' => hm m (by simp [hm'])⟩) (fun h => by cases h)
        rw [this]; simp
    | false =>
      obtain rfl := h2 rfl
      have e : encL false (v :: r) [] ++ rest = encC v ++ (encL false r [] ++ rest) := by simp [encL]
      rw [if_neg (by decide), e, hf v (by simp)]
      have := rdI_back (f := f) false r [] (es ++ [v]) ms rest (fun w hw => hf w (by simp [hw])) (fun h => by cases h) (fun _ => rfl)
      rw [this]; simp
theorem sizeV_pos : ∀ v, 1 ≤ sizeV v := by
  refine Val.ind fun k n s is ns ih => ?_
  have h0 : ∀ l, (∀ v ∈ l, v ∈ is) → 0 ≤ sizeL l := by
    intro l
    induction l with
    | nil => intro _; simp [sizeL]
    | cons v r ihr => intro h; have := ih v (h v (by simp)); have := ihr (fun w hw => h w (by simp [hw])); simp only [sizeL]; omega
  have h1 := h0 is (fun _ h => h)
  have h2 : ∀ l : List (List UInt8), 0 ≤ (l.map tlenN).sum := by
    intro l
    induction l with
    | nil => simp
    | cons x r ihr => simp only [List.map_cons, List.sum_cons, tlenN]; omega
  have := h2 ns
  rw [sizeV]
  simp only [tlenN, clenN]
  repeat' split
  all_goals omega
theorem sizeL_mem {l : List Val} {v : Val} (h : v ∈ l) : sizeV v ≤ sizeL l := by
  induction l with
  | nil => cases h
  | cons x r ih =>
    have h0 : ∀ l : List Val, 0 ≤ sizeL l := by
      intro l
      induction l with
      | nil => simp [sizeL]
      | cons v r ihr => have := sizeV_pos v; simp only [sizeL]; omega
    have := h0 r
    have := sizeV_pos x
    rw [sizeL]
    rcases List.mem_cons.1 h with rfl | h
    · omega
    · have := ih h; omega
theorem sizeL_len : ∀ l : List Val, (l.length : Int) ≤ sizeL l
  | [] => by simp [sizeL]
  | v :: r => by have := sizeL_len r; have := sizeV_pos v; simp only [sizeL, List.length_cons]; omega
theorem nameB_len {m : List UInt8} (h : nameB m = true) : m.length ≤ 32 := by
  simp only [nameB, Bool.and_eq_true, decide_eq_true_eq] at h; omega
theorem mayV_names {k n : Int} {s : List UInt8} {is : List Val} {ns : List (List UInt8)} (h : mayV (.mk k n s is ns) = true) : ∀ m ∈ ns, m.length ≤ 32 := by
  simp only [mayV, Bool.and_eq_true, List.all_eq_true] at h
  intro m hm
  exact nameB_len (h.1.2 m hm)
theorem shape_parts {k n : Int} {s : List UInt8} {l : Nat} {ns : List (List UInt8)} (h : shapeB k n s l ns = true) :
    (k = 1 ∧ n = 0 ∧ s = [] ∧ l = 0 ∧ ns = []) ∨ (k = 2 ∧ (0 ≤ n ∧ n ≤ 1) ∧ s = [] ∧ l = 0 ∧ ns = []) ∨ (k = 3 ∧ s = [] ∧ l = 0 ∧ ns = []) ∨ ((k = 4 ∨ k = 5) ∧ n = 0 ∧ l = 0 ∧ ns = []) ∨ (k = 6 ∧ n = 0 ∧ s = [] ∧ ns = []) ∨ (k = 7 ∧ n = 0 ∧ s = [] ∧ ns.length = l) := by
  unfold shapeB at h
  by_cases h1 : k = 1
  · subst h1; simp at h; simp [h]
  · by_cases h2 : k = 2
    · subst h2; simp at h; simp [h]
    · by_cases h3 : k = 3
      · subst h3; simp at h; simp [h]
      · by_cases h4 : k = 4 ∨ k = 5
        · have h4' : (k == 4 || k == 5) = true := by simpa using h4
          rw [if_neg (by simpa using h1), if_neg (by simpa using h2), if_neg (by simpa using h3), if_pos h4'] at h
          simp at h
          exact .inr (.inr (.inr (.inl ⟨h4, by simp [h]⟩)))
        · have h4' : ¬ (k == 4 || k == 5) = true := by simpa using h4
          rw [if_neg (by simpa using h1), if_neg (by simpa using h2), if_neg (by simpa using h3), if_neg h4'] at h
          by_cases h6 : k = 6
          · subst h6; simp at h; simp [h]
          · by_cases h7 : k = 7
            · subst h7; simp at h; simp [h]
            · rw [if_neg (by simpa using h6), if_neg (by simpa using h7)] at h; cases h
theorem rdV_back (p : Bool) : ∀ v, okV v → mayV v = true → sizeV v ≤ 4096 → ∀ d : Nat, depthV v ≤ d → ∀ rest, rdV p d (encC v ++ rest, false) = (v, rest, false) := by
  refine Val.ind fun k n s is ns ih hok hmay hsz d hd rest => ?_
  obtain ⟨hk, hn, hs, hil, hnl, hns, his⟩ := okV_inv hok
  obtain ⟨hm1, hsh⟩ := mayV_inv hmay
  have hpos := depthV_pos (.mk k n s is ns)
  obtain ⟨d, rfl⟩ : ∃ e, d = e + 1 := ⟨d - 1, by omega⟩
  rcases shape_parts hsh with ⟨rfl, rfl, rfl, hl, rfl⟩ | ⟨rfl, hn2, rfl, hl, rfl⟩ | ⟨rfl, rfl, hl, rfl⟩ | ⟨hk45, rfl, hl, rfl⟩ | ⟨rfl, rfl, rfl, rfl⟩ | ⟨rfl, rfl, rfl, hl⟩
  · obtain rfl := List.eq_nil_of_length_eq_zero hl
    have e : encC (.mk 1 0 [] [] []) ++ rest = u8 1 :: rest := by simp [encC]
    rw [e]; simp only [rdV, sByte_back (k := 1) (by omega)]; rfl
  · obtain rfl := List.eq_nil_of_length_eq_zero hl
    have e : encC (.mk 2 n [] [] []) ++ rest = u8 2 :: u8 n :: rest := by simp [encC]
    rw [e]; simp only [rdV, sByte_back (k := 2) (by omega), sByte_back (k := n) (by omega)]; rfl
  · obtain rfl := List.eq_nil_of_length_eq_zero hl
    have e : encC (.mk 3 n [] [] []) ++ rest = u8 3 :: (vcode (zz n) ++ rest) := by simp [encC]; rfl
    rw [e]; simp only [rdV, sByte_back (k := 3) (by omega), sInt_back hn.1 hn.2]; rfl
  · obtain rfl := List.eq_nil_of_length_eq_zero hl
    have hs4 : s.length ≤ 4096 := by rcases hk45 with rfl | rfl <;> (simp [sizeV, tlenN] at hsz; omega)
    have e : encC (.mk k 0 s [] []) ++ rest = u8 k :: (vcode s.length ++ s ++ rest) := by rcases hk45 with rfl | rfl <;> simp [encC]
    rw [e]; rcases hk45 with rfl | rfl
    · simp only [rdV, sByte_back (k := 4) (by omega), sText_back (s := s) (most := 4096) (by omega) (by omega)]; rfl
    · simp only [rdV, sByte_back (k := 5) (by omega), sText_back (s := s) (most := 4096) (by omega) (by omega)]; rfl
  · have hsl : 1 + clenN is.length + sizeL is ≤ 4096 := by simpa [sizeV] using hsz
    have hdl : depthL is ≤ d := by rw [depthV] at hd; omega
    have hlen := sizeL_len is
    have hcl : 0 ≤ clenN is.length := by unfold clenN; omega
    have e : encC (.mk 6 0 [] is []) ++ rest = u8 6 :: (vcode is.length ++ (encL false is [] ++ rest)) := by simp [encC]
    have hr := rdI_back (f := rdV p d) false is [] [] [] rest (fun v hv r => ih v hv (his v hv) (hm1 v hv) (by have := sizeL_mem hv; omega) d (by have := depthL_mem hv; omega) r) (fun h => by cases h) (fun _ => rfl)
    rw [e]
    simp only [rdV, sByte_back (k := 6) (by omega), sCount_back (n := is.length) (most := 4096) (by omega) (by omega), Int.toNat_natCast]
    rw [show ((6 : Int) == 7) = false from rfl, hr]; rfl
  · have hsl : 1 + clenN is.length + sizeL is + (ns.map tlenN).sum ≤ 4096 := by simpa [sizeV] using hsz
    have h2 : ∀ l : List (List UInt8), 0 ≤ (l.map tlenN).sum := by
      intro l
      induction l with
      | nil => simp
      | cons x r ihr => simp only [List.map_cons, List.sum_cons, tlenN]; omega
    have := h2 ns
    have hdl : depthL is ≤ d := by rw [depthV] at hd; omega
    have hlen := sizeL_len is
    have hcl : 0 ≤ clenN is.length := by unfold clenN; omega
    have e : encC (.mk 7 0 [] is ns) ++ rest = u8 7 :: (vcode is.length ++ (encL true is ns ++ rest)) := by simp [encC]
    have hr := rdI_back (f := rdV p d) true is ns [] [] rest (fun v hv r => ih v hv (his v hv) (hm1 v hv) (by have := sizeL_mem hv; omega) d (by have := depthL_mem hv; omega) r) (fun _ => ⟨hl, mayV_names hmay⟩) (fun h => by cases h)
    rw [e]
    simp only [rdV, sByte_back (k := 7) (by omega), sCount_back (n := is.length) (most := 4096) (by omega) (by omega), Int.toNat_natCast]
    rw [show ((7 : Int) == 7) = true from rfl, hr]; rfl
end Go.Proofs.Ytmflmbfheaaglaa

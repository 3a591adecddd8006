/- A small semantics of loaded Go code that the kernel can run, part 7. -/
import Derived.Test.YtpkmddkodchanaaLsG6
set_option linter.unusedVariables false
set_option linter.unusedSimpArgs false
namespace Go.LS
theorem byte_inj {a b : UInt8} (h : a.toNat = b.toNat) : a = b := UInt8.toNat_inj.1 h
theorem digs1 {a : UInt8} {r : List UInt8} {n m : Int} (h : digsB (a :: r) n = some m) : 48 ≤ a.toNat ∧ a.toNat ≤ 57 ∧ digsB r (10 * n + ((a.toNat : Int) - 48)) = some m := by
  rw [digsB] at h
  split at h
  · cases h
  · rename_i q
    simp at q
    exact ⟨q.1, q.2, h⟩
theorem digs0 {n m : Int} (h : digsB [] n = some m) : n = m := by simpa [digsB] using h
theorem idxB_inj {s t : List UInt8} {m : Int} (hs : idxB s = some m) (ht : idxB t = some m) : s = t := by
  unfold idxB at hs ht
  split at hs
  · cases hs
  rename_i h1
  split at ht
  · cases ht
  rename_i h2
  simp only [Bool.or_eq_true, decide_eq_true_eq, Bool.and_eq_true, beq_iff_eq, not_or, not_and] at h1 h2
  match s, t, h1, h2, hs, ht with
  | [], _, h1, _, _, _ => simp at h1
  | _ :: _, [], _, h2, _, _ => simp at h2
  | [a], [b], h1, h2, hs, ht =>
    obtain ⟨a1, a2, hs⟩ := digs1 hs
    obtain ⟨b1, b2, ht⟩ := digs1 ht
    have := digs0 hs; have := digs0 ht
    rw [byte_inj (show a.toNat = b.toNat by omega)]
  | [a], b :: c :: r, h1, h2, hs, ht =>
    obtain ⟨a1, a2, hs⟩ := digs1 hs
    obtain ⟨b1, b2, ht⟩ := digs1 ht
    obtain ⟨c1, c2, ht⟩ := digs1 ht
    have := digs0 hs
    simp at h2
    match r, h2, ht with
    | [], h2, ht => have := digs0 ht; omega
    | [d], h2, ht =>
      obtain ⟨d1, d2, ht⟩ := digs1 ht
      have := digs0 ht; omega
    | _ :: _ :: _, h2, _ => simp at h2
  | b :: c :: r, [a], h2, h1, ht, hs =>
    obtain ⟨a1, a2, hs⟩ := digs1 hs
    obtain ⟨b1, b2, ht⟩ := digs1 ht
    obtain ⟨c1, c2, ht⟩ := digs1 ht
    have := digs0 hs
    simp at h2
    match r, h2, ht with
    | [], h2, ht => have := digs0 ht; omega
    | [d], h2, ht =>
      obtain ⟨d1, d2, ht⟩ := digs1 ht
      have := digs0 ht; omega
    | _ :: _ :: _, h2, _ => simp at h2
  | a :: b :: r, c :: d :: q, h1, h2, hs, ht =>
    obtain ⟨a1, a2, hs⟩ := digs1 hs
    obtain ⟨b1, b2, hs⟩ := digs1 hs
    obtain ⟨c1, c2, ht⟩ := digs1 ht
    obtain ⟨d1, d2, ht⟩ := digs1 ht
    simp at h1 h2
    match r, q, h1, h2, hs, ht with
    | [], [], h1, h2, hs, ht =>
      have := digs0 hs; have := digs0 ht
      rw [byte_inj (show a.toNat = c.toNat by omega), byte_inj (show b.toNat = d.toNat by omega)]
    | [], [e], h1, h2, hs, ht =>
      obtain ⟨e1, e2, ht⟩ := digs1 ht
      have := digs0 hs; have := digs0 ht; omega
    | [e], [], h1, h2, hs, ht =>
      obtain ⟨e1, e2, hs⟩ := digs1 hs
      have := digs0 hs; have := digs0 ht; omega
    | [e], [f], h1, h2, hs, ht =>
      obtain ⟨e1, e2, hs⟩ := digs1 hs
      obtain ⟨f1, f2, ht⟩ := digs1 ht
      have := digs0 hs; have := digs0 ht
      rw [byte_inj (show a.toNat = c.toNat by omega), byte_inj (show b.toNat = d.toNat by omega), byte_inj (show e.toNat = f.toNat by omega)]
    | _ :: _ :: _, _, h1, _, _, _ => simp at h1
    | _, _ :: _ :: _, _, h2, _, _ => simp at h2
theorem place_inj {v : Val} {a b : List UInt8} {i : Nat} (ha : placeV v a = (i : Int)) (hb : placeV v b = (i : Int)) : a = b := by
  obtain ⟨k, n, s, is, ns⟩ := v
  by_cases h7 : k = 7
  · subst h7
    rw [place7] at ha hb
    split at ha
    · rename_i h1
      split at hb
      · rename_i h2
        have e1 := List.getElem_idxOf (List.idxOf_lt_length_of_mem h1)
        have e2 := List.getElem_idxOf (List.idxOf_lt_length_of_mem h2)
        have e : ns.idxOf a = ns.idxOf b := by omega
        rw [← e1, ← e2]
        simp only [e]
      · omega
    · omega
  · by_cases h6 : k = 6
    · subst h6
      rw [place6] at ha hb
      rcases idxB_cases a with ⟨_, h⟩ | ⟨j, h⟩
      · rw [h] at ha; split at ha <;> omega
      · rcases idxB_cases b with ⟨_, g⟩ | ⟨l, g⟩
        · rw [g] at hb; split at hb <;> omega
        · rw [h, Option.getD_some] at ha
          rw [g, Option.getD_some] at hb
          split at ha
          · split at hb
            · exact idxB_inj h (by rw [g, show l = j by omega])
            · omega
          · omega
    · rw [placeO h6 h7] at ha; omega
theorem items5 (v : Val) : itemsV5 v = iV v := by obtain ⟨_, _, _, _, _⟩ := v; rfl
theorem getV_cons {p : List UInt8} {r : List (List UInt8)} {v : Val} : getV (p :: r) v = if placeV v p < 0 then none else (iV v)[(placeV v p).toNat]?.bind (getV r) := by
  rw [getV, items5]
  split
  · rfl
  · cases (iV v)[(placeV v p).toNat]? <;> rfl
theorem getV_doc0 {p : List UInt8} {r : List (List UInt8)} : getV (p :: r) docV0 = none := by
  rw [getV_cons]
  have : placeV docV0 p = -1 := by unfold docV0; rw [place7]; simp
  rw [this]; rfl
theorem get_other {v x : Val} {a b : List UInt8} {t : List (List UInt8)} {i : Nat} (ha : placeV v a = (i : Int)) (hab : a ≠ b) : getV (b :: t) (swapV v i x) = getV (b :: t) v := by
  rw [getV_cons, getV_cons, place_swap, items_swap]
  split
  · rfl
  · rename_i hb
    have : i ≠ (placeV v b).toNat := fun e => hab (place_inj ha (by rw [e]; omega))
    rw [List.getElem?_set_ne this]
theorem isPrefixOf_cons {a b : List UInt8} {r t : List (List UInt8)} : (a :: r).isPrefixOf (b :: t) = (a == b && r.isPrefixOf t) := rfl
theorem set_keeps {x : Val} : ∀ (p q : List (List UInt8)) (v : Val), mayV v = true → (setV p v x).2 = true → p.isPrefixOf q = false → q.isPrefixOf p = false → getV q (setV p v x).1 = getV q v
  | [], q, v, hv, h, h1, h2 => by simp [List.isPrefixOf] at h1
  | a :: r, [], v, hv, h, h1, h2 => by simp [List.isPrefixOf] at h2
  | a :: r, b :: t, v, hv, h, h1, h2 => by
    rw [isPrefixOf_cons] at h1 h2
    rcases place_cases hv a with hpl | ⟨i, y, hpl, hi, _, hy⟩
    · have n2 : ¬ ((-1 : Int) ≥ 0) := by omega
      obtain ⟨k, n, s, is, ns⟩ := v
      by_cases h7 : k = 7
      · subst h7
        obtain ⟨rfl, rfl, hl, ht, hn, hmi⟩ := may_inv7 hv
        have e : setV (a :: r) (.mk 7 0 [] is ns) x = (growV (.mk 7 0 [] is ns) a (setV r docV0 x).1, (setV r docV0 x).2) := by
          rw [setV, hpl, if_neg n2, if_pos (by rfl)]
        rw [e] at h ⊢
        have hnot : a ∉ ns := by intro hm; rw [place7, if_pos hm] at hpl; omega
        by_cases hab : a = b
        · subst hab
          rw [getV_cons, place_grow7 hl hnot, if_neg (by omega), Int.toNat_natCast]
          have hit : (iV (growV (.mk 7 0 [] is ns) a (setV r docV0 x).1))[is.length]? = some (setV r docV0 x).1 := by simp [growV, iV]
          rw [hit, Option.bind_some, getV_cons, hpl, if_pos (by omega)]
          simp only [beq_self_eq_true, Bool.true_and] at h1 h2
          rw [set_keeps r t docV0 may_docV0 h h1 h2]
          cases t with
          | nil => simp [List.isPrefixOf] at h2
          | cons c t => exact getV_doc0
        · have hb : placeV (growV (.mk 7 0 [] is ns) a (setV r docV0 x).1) b = placeV (.mk 7 0 [] is ns) b := by
            simp only [growV]
            have e7 : ((7 : Int) == 7) = true := rfl
            rw [if_pos e7, place7, place7]
            have : (b ∈ ns ++ [a]) ↔ b ∈ ns := by simp; exact fun e => absurd e.symm hab
            by_cases hm : b ∈ ns
            · rw [if_pos (this.2 hm), if_pos hm, List.idxOf_append, if_pos hm]
            · rw [if_neg (fun q => hm (this.1 q)), if_neg hm]
          rw [getV_cons, getV_cons, hb]
          split
          · rfl
          · rename_i hge
            rcases place_cases hv b with hb1 | ⟨j, z, hb1, hj, _, _⟩
            · omega
            · rw [hb1, Int.toNat_natCast]
              have hlt := (List.getElem?_eq_some_iff.1 hj).1
              have : (iV (growV (.mk 7 0 [] is ns) a (setV r docV0 x).1))[j]? = (iV (.mk 7 0 [] is ns))[j]? := by
                simp only [growV, iV] at hlt ⊢
                rw [List.getElem?_append_left hlt]
              rw [this]
      · by_cases h6 : k = 6
        · subst h6
          have e : setV (a :: r) (.mk 6 n s is ns) x = (growV (.mk 6 n s is ns) [] x, (idxB a).isSome && Option.getD (idxB a) 0 == ((is.length : Nat) : Int) && r.isEmpty) := by
            rw [setV, hpl, if_neg n2, if_neg (by simp [kV]), if_pos (by rfl)]; rfl
          rw [e] at h ⊢
          simp only [Bool.and_eq_true, beq_iff_eq, List.isEmpty_iff] at h
          obtain ⟨⟨g1, g2⟩, rfl⟩ := h
          have hab : a ≠ b := by rintro rfl; simp at h1
          obtain ⟨m, hm⟩ := Option.isSome_iff_exists.1 g1
          rw [hm, Option.getD_some] at g2
          subst g2
          have hb : placeV (growV (.mk 6 n s is ns) [] x) b = placeV (.mk 6 n s is ns) b := by
            simp only [growV]
            rw [place6, place6]
            rcases idxB_cases b with ⟨_, g⟩ | ⟨l, g⟩
            · rw [g]; simp only [List.length_append]; split <;> split <;> omega
            · rw [g, Option.getD_some]
              have : l ≠ is.length := fun e => hab (idxB_inj hm (by rw [g, e]))
              simp only [List.length_append, List.length_cons, List.length_nil]
              by_cases hlt : (l : Int) < is.length
              · rw [if_pos hlt, if_pos (by omega)]
              · rw [if_neg hlt, if_neg (by omega)]
          rw [getV_cons, getV_cons, hb]
          split
          · rfl
          · rename_i hge
            rcases place_cases hv b with hb1 | ⟨j, z, hb1, hj, _, _⟩
            · omega
            · rw [hb1, Int.toNat_natCast]
              have hlt := (List.getElem?_eq_some_iff.1 hj).1
              have : (iV (growV (.mk 6 n s is ns) [] x))[j]? = (iV (.mk 6 n s is ns))[j]? := by
                simp only [growV, iV] at hlt ⊢
                rw [List.getElem?_append_left hlt]
              rw [this]
        · have a7 : (k == 7) = false := by simpa using h7
          have b6 : (k == 6) = false := by simpa using h6
          rw [setV, hpl, if_neg n2] at h
          simp [kV, a7, b6] at h
    · have e : setV (a :: r) v x = (swapV v i (setV r y x).1, (setV r y x).2) := by
        have n2 : ((i : Int) ≥ 0) := by omega
        rw [setV, hpl, if_pos n2, Int.toNat_natCast, hi]
      rw [e] at h ⊢
      by_cases hab : a = b
      · subst hab
        simp only [beq_self_eq_true, Bool.true_and] at h1 h2
        have hlt := (List.getElem?_eq_some_iff.1 hi).1
        have hit : (iV (swapV v i (setV r y x).1))[i]? = some (setV r y x).1 := by rw [items_swap]; simp [hlt]
        rw [getV_cons, getV_cons, place_swap, hpl, if_neg (by omega), if_neg (by omega), Int.toNat_natCast, hit, hi, Option.bind_some, Option.bind_some]
        exact set_keeps r t y hy h h1 h2
      · exact get_other hpl hab
structure Chg (f : Val → Nat → Val) : Prop where
  may : ∀ v i y, mayV v = true → (∃ p, placeV v p = ((i : Nat) : Int)) → (iV v)[i]? = some y → mayV (f v i) = true
  other : ∀ v i y a b t, mayV v = true → placeV v a = ((i : Nat) : Int) → (iV v)[i]? = some y → a ≠ b → getV (b :: t) (f v i) = getV (b :: t) v
  kind : ∀ v i, kV (f v i) = kV v
  twice : ∀ v i y a, mayV v = true → placeV v a = ((i : Nat) : Int) → (iV v)[i]? = some y → atV f [a] (f v i) = f v i
theorem atV_one {f : Val → Nat → Val} {a : List UInt8} {v : Val} : atV f [a] v = if placeV v a < 0 then v else f v (placeV v a).toNat := by rw [atV]
theorem atV_two {f : Val → Nat → Val} {a b : List UInt8} {t : List (List UInt8)} {v y : Val} {i : Nat} (h : placeV v a = (i : Int)) (hi : (iV v)[i]? = some y) : atV f (a :: b :: t) v = swapV v i (atV f (b :: t) y) := by
  rw [atV, h, if_neg (by omega), Int.toNat_natCast, hi]
theorem atV_none {f : Val → Nat → Val} {a : List UInt8} {t : List (List UInt8)} {v : Val} (h : placeV v a = -1) : atV f (a :: t) v = v := by
  cases t <;> rw [atV, h, if_pos (by omega)]
theorem at_may {f : Val → Nat → Val} (hf : Chg f) : ∀ (p : List (List UInt8)) (v : Val), mayV v = true → mayV (atV f p v) = true
  | [], v, hv => hv
  | [a], v, hv => by
    rcases place_cases hv a with h | ⟨i, y, h, hi, _, hy⟩
    · rw [atV_none h]; exact hv
    · rw [atV_one, h, if_neg (by omega), Int.toNat_natCast]; exact hf.may v i y hv ⟨a, h⟩ hi
  | a :: b :: t, v, hv => by
    rcases place_cases hv a with h | ⟨i, y, h, hi, _, hy⟩
    · rw [atV_none h]; exact hv
    · rw [atV_two h hi]; exact may_swap hv (at_may hf (b :: t) y hy)
theorem at_kind {f : Val → Nat → Val} (hf : Chg f) {p : List (List UInt8)} {v : Val} (hv : mayV v = true) : kV (atV f p v) = kV v := by
  match p with
  | [] => rfl
  | [a] =>
    rcases place_cases hv a with h | ⟨i, y, h, hi, _, hy⟩
    · rw [atV_none h]
    · rw [atV_one, h, if_neg (by omega), Int.toNat_natCast]; exact hf.kind v i
  | a :: b :: t =>
    rcases place_cases hv a with h | ⟨i, y, h, hi, _, hy⟩
    · rw [atV_none h]
    · rw [atV_two h hi]; exact kind_swap
theorem at_keeps {f : Val → Nat → Val} (hf : Chg f) : ∀ (p q : List (List UInt8)) (v : Val), mayV v = true → p.isPrefixOf q = false → q.isPrefixOf p = false → getV q (atV f p v) = getV q v
  | [], q, v, hv, h1, h2 => by simp [List.isPrefixOf] at h1
  | a :: r, [], v, hv, h1, h2 => by simp [List.isPrefixOf] at h2
  | [a], b :: t, v, hv, h1, h2 => by
    have hab : a ≠ b := by rintro rfl; simp at h1
    rcases place_cases hv a with h | ⟨i, y, h, hi, _, hy⟩
    · rw [atV_none h]
    · rw [atV_one, h, if_neg (by omega), Int.toNat_natCast]; exact hf.other v i y a b t hv h hi hab
  | a :: c :: r, b :: t, v, hv, h1, h2 => by
    rw [isPrefixOf_cons] at h1 h2
    rcases place_cases hv a with h | ⟨i, y, h, hi, _, hy⟩
    · rw [atV_none h]
    · rw [atV_two h hi]
      by_cases hab : a = b
      · subst hab
        simp only [beq_self_eq_true, Bool.true_and] at h1 h2
        have hlt := (List.getElem?_eq_some_iff.1 hi).1
        have hit : (iV (swapV v i (atV f (c :: r) y)))[i]? = some (atV f (c :: r) y) := by rw [items_swap]; simp [hlt]
        rw [getV_cons, getV_cons, place_swap, h, if_neg (by omega), if_neg (by omega), Int.toNat_natCast, hit, hi, Option.bind_some, Option.bind_some]
        exact at_keeps hf (c :: r) t y hy h1 h2
      · exact get_other h hab
theorem idxOf_erase {b a : List UInt8} : ∀ (l : List (List UInt8)) (i : Nat), l[i]? = some a → a ≠ b → (b ∈ l.eraseIdx i ↔ b ∈ l) ∧ ∀ {α : Type} (is : List α), is.length = l.length → b ∈ l → (is.eraseIdx i)[(l.eraseIdx i).idxOf b]? = is[l.idxOf b]?
  | [], i, h, _ => by simp at h
  | x :: r, 0, h, hab => by
    simp at h; subst h
    refine ⟨by simp; exact fun e => absurd e.symm hab, fun is hl hb => ?_⟩
    cases is with
    | nil => simp at hl
    | cons y q =>
      have hx : (x == b) = false := by simpa using hab
      simp only [List.eraseIdx_zero, List.tail_cons, List.idxOf_cons, hx, cond_false, List.getElem?_cons_succ]
  | x :: r, i + 1, h, hab => by
    obtain ⟨a1, a2⟩ := idxOf_erase r i (by simpa using h) hab
    refine ⟨by simp only [List.eraseIdx_cons_succ, List.mem_cons, a1], fun is hl hb => ?_⟩
    cases is with
    | nil => simp at hl
    | cons y q =>
      simp only [List.eraseIdx_cons_succ, List.idxOf_cons]
      by_cases hx : (x == b) = true
      · simp [hx]
      · have hx' : (x == b) = false := by simpa using hx
        have hbr : b ∈ r := by
          rcases List.mem_cons.1 hb with e | e
          · subst e; simp at hx'
          · exact e
        simp only [hx', cond_false, List.getElem?_cons_succ]
        exact a2 q (by simpa using hl) hbr
theorem idxOf_get {l : List (List UInt8)} {a : List UInt8} (h : a ∈ l) : l[l.idxOf a]? = some a := by
  rw [List.getElem?_eq_getElem (List.idxOf_lt_length_of_mem h)]
  simp
theorem erase_nm : ∀ (l : List (List UInt8)), twiceB l = false → ∀ a, a ∉ l.eraseIdx (l.idxOf a)
  | [], _, a => by simp
  | x :: r, h, a => by
    simp only [twiceB, Bool.or_eq_false_iff, List.contains_eq_mem, decide_eq_false_iff_not] at h
    rw [List.idxOf_cons]
    by_cases hx : (x == a) = true
    · have := eq_of_beq hx; subst this
      simp only [beq_self_eq_true, cond_true, List.eraseIdx_zero, List.tail_cons]; exact h.1
    · have hx' : (x == a) = false := by simpa using hx
      simp only [hx', cond_false, List.eraseIdx_cons_succ, List.mem_cons, not_or]
      exact ⟨fun e => by subst e; simp at hx', erase_nm r h.2 a⟩
theorem without_chg : Chg withoutV where
  may := by
    intro v i y hv hp hi
    obtain ⟨k, n, s, is, ns⟩ := v
    rw [withoutV]
    split
    · exact may_swap (v := .mk k n s is ns) hv may_nullV
    · rename_i h6
      obtain ⟨p, hp⟩ := hp
      by_cases h7 : k = 7
      · subst h7
        obtain ⟨rfl, rfl, hl, ht, hn, hmi⟩ := may_inv7 hv
        refine may_mk7 ?_ (twiceB_erase ns i ht) ?_ fun z hz => hmi z (List.mem_of_mem_eraseIdx hz)
        · rw [List.length_eraseIdx, List.length_eraseIdx, hl]
        · rw [List.all_eq_true] at hn ⊢; exact fun z hz => hn z (List.mem_of_mem_eraseIdx hz)
      · rw [placeO (by simpa using h6) h7] at hp; omega
  other := by
    intro v i y a b t hv ha hi hab
    obtain ⟨k, n, s, is, ns⟩ := v
    rw [withoutV]
    split
    · exact get_other (v := .mk k n s is ns) ha hab
    · rename_i h6
      by_cases h7 : k = 7
      · subst h7
        obtain ⟨rfl, rfl, hl, ht, hn, hmi⟩ := may_inv7 hv
        rw [place7] at ha
        split at ha
        · rename_i ham
          have ei : i = ns.idxOf a := by omega
          obtain ⟨a1, a2⟩ := idxOf_erase (b := b) (a := a) ns i (by rw [ei]; exact idxOf_get ham) hab
          rw [getV_cons, getV_cons, place7, place7]
          by_cases hb : b ∈ ns
          · rw [if_pos (a1.2 hb), if_pos hb, if_neg (by omega), if_neg (by omega), Int.toNat_natCast, Int.toNat_natCast]
            simp only [iV]
            rw [a2 is hl.symm hb]
          · rw [if_neg (fun q => hb (a1.1 q)), if_neg hb, if_pos (by omega), if_pos (by omega)]
        · omega
      · rw [placeO (by simpa using h6) h7] at ha; omega
  kind := by intro v i; obtain ⟨k, n, s, is, ns⟩ := v; rw [withoutV]; split <;> rfl
  twice := by
    intro v i y a hv ha hi
    obtain ⟨k, n, s, is, ns⟩ := v
    have e : withoutV (.mk k n s is ns) i = if k == 6 then swapV (.mk k n s is ns) i nullV else .mk k n s (is.eraseIdx i) (ns.eraseIdx i) := rfl
    rw [e]
    split
    · rename_i h6
      rw [atV_one, place_swap, ha, if_neg (by omega), Int.toNat_natCast]
      simp only [swapV, withoutV, h6, if_true, List.set_set]
    · rename_i h6
      by_cases h7 : k = 7
      · subst h7
        obtain ⟨rfl, rfl, hl, ht, hn, hmi⟩ := may_inv7 hv
        rw [place7] at ha
        split at ha
        · rename_i ham
          have ei : i = ns.idxOf a := by omega
          have hnot : a ∉ ns.eraseIdx i := by
            rw [ei]
            exact erase_nm ns ht a
          rw [atV_none]
          rw [place7, if_neg hnot]
        · omega
      · rw [placeO (by simpa using h6) h7] at ha; omega
theorem may_cutArr {k m : Int} {s : List UInt8} {is : List Val} {ns : List (List UInt8)} {c : Nat} (h6 : (k == 6) = true) (h : mayV (.mk k m s is ns) = true) : mayV (.mk k m s (is.take c) ns) = true := by
  have e := eq_of_beq h6
  subst e
  obtain ⟨rfl, rfl, rfl, hmi⟩ := may_inv6 h
  exact may_mk6 fun y hy => hmi y (List.mem_of_mem_take hy)
theorem cutV_eq {c : Int} {v y : Val} {i : Nat} (hi : (iV v)[i]? = some y) : cutV c v i = if kV y == 6 && decide (((iV y).length : Int) > c) then swapV v i (.mk (kV y) (nV y) (sV y) ((iV y).take c.toNat) (mV y)) else v := by
  obtain ⟨k, n, s, is, ns⟩ := v
  obtain ⟨ky, ny, sy, iy, my⟩ := y
  simp only [iV] at hi
  simp only [cutV, hi, kV, iV, nV, sV, mV, swapV]
  rfl
theorem cut_chg {c : Int} (hc : 0 ≤ c) : Chg (cutV c) where
  may := by
    intro v i y hv hp hi
    have hy : mayV y = true := by
      obtain ⟨k, n, s, is, ns⟩ := v
      rw [mayV, mayL_all] at hv
      simp only [Bool.and_eq_true, List.all_eq_true] at hv
      exact hv.1.1 y (List.mem_of_getElem? hi)
    rw [cutV_eq hi]
    split
    · rename_i h
      simp only [Bool.and_eq_true] at h
      refine may_swap hv ?_
      obtain ⟨ky, ny, sy, iy, my⟩ := y
      exact may_cutArr h.1 hy
    · exact hv
  other := by
    intro v i y a b t hv ha hi hab
    rw [cutV_eq hi]
    split
    · exact get_other ha hab
    · rfl
  kind := by
    intro v i
    cases hi : (iV v)[i]? with
    | none => obtain ⟨k, n, s, is, ns⟩ := v; simp only [iV] at hi; simp only [cutV, hi, kV]
    | some y =>
      rw [cutV_eq hi]
      split
      · exact kind_swap
      · rfl
  twice := by
    intro v i y a hv ha hi
    rw [cutV_eq hi]
    split
    · rename_i h
      have hlt := (List.getElem?_eq_some_iff.1 hi).1
      rw [atV_one, place_swap, ha, if_neg (by omega), Int.toNat_natCast]
      rw [cutV_eq (y := .mk (kV y) (nV y) (sV y) ((iV y).take c.toNat) (mV y)) (by rw [items_swap]; simp [hlt])]
      rw [if_neg]
      simp only [iV, List.length_take, Bool.and_eq_true, decide_eq_true_eq, not_and]
      intro _
      omega
    · rename_i h
      rw [atV_one, ha, if_neg (by omega), Int.toNat_natCast, cutV_eq hi, if_neg h]
end Go.LS
namespace Go.LS
def dropT (e : Int) (ps : List (List UInt8)) (v : Val) : Val × Int := if (e == 0) = true then (atV withoutV ps v, 0) else (zeroV, e)
def cutT (e : Int) (ps : List (List UInt8)) (v : Val) (n : Int) : Val × Int := if (e == 0) = true then (if decide (n < 0) = true then (zeroV, 1) else (atV (cutV n) ps v, 0)) else (zeroV, e)
def setT (e : Int) (ps : List (List UInt8)) (v x : Val) : Val × Int :=
  if (kV v == 7 && !mayV x) = true then (zeroV, 20) else if (e == 0) = true then (if (setV ps v x).2 = true then ((setV ps v x).1, 0) else (zeroV, 40)) else (zeroV, e)
end Go.LS

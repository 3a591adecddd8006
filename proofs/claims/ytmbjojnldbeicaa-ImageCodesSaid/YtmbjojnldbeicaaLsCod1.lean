import Derived.Test.YtmbjojnldbeicaaLsCodW
set_option linter.unusedVariables false
set_option linter.unusedSimpArgs false
set_option maxRecDepth 100000
set_option linter.unusedSimpArgs false
namespace Go.Proofs.Ytmbjojnldbeicaa
open Go Go.LS
theorem encL_ns : ∀ (is : List Val) (a b : List (List UInt8)), encL false is a = encL false is b
  | [], _, _ => by simp [encL]
  | v :: r, a, b => by simp only [encL, Bool.false_eq_true, if_false]; rw [encL_ns r a.tail b.tail]
theorem zz_eq (n : Int) : zz n = zzN n := rfl
theorem u8_eq (n : Int) : UInt8.ofNat (Int.toNat (IntKind.wrap .u8 n)) = u8 n := rfl
theorem putLoop1 {k n : Int} {s : List UInt8} {is : List Val} {ns : List (List UInt8)} (hil : is.length ≤ 140737488355328) (hns : ∀ x ∈ ns, x.length ≤ 140737488351232)
    (ih : ∀ v ∈ is, ∀ L : List UInt8, L.length + (encC v).length ≤ 190000000000000 → Runs lp 58 [.sl (bs L) 0 L.length, encV v] [.spare 1 L.length] (.sl (bs (L ++ encC v)) 0 (L ++ encC v).length, [.spare 1 (L ++ encC v).length]))
    (hn : (k == 7) = true → ns.length = is.length) (L : List UInt8) (hL : L.length + (encL (k == 7) is ns).length ≤ 190000000000000) :
    LoopN lp 1 (loopNo lf58 0) (tl 0 77 [(0, .sl (bs L) 0 L.length), (3, .ptr 1 0 0), (54, .p (.sl (rowsV is))), (55, .p (.int .i64 ((List.length (rowsV is) : Nat) : Int))), (56, .p (.int .i64 0))]) [.spare 1 L.length, .row [[.p (.int .i64 k), .p (.int .i64 n), .p (.str s), .p (.sl (rowsV is)), .p (.sl (rowsN ns))]]]
      (.exit 1, tl 0 77 [(0, .sl (bs (L ++ encL (k == 7) is ns)) 0 (L ++ encL (k == 7) is ns).length)], [.spare 1 (L ++ encL (k == 7) is ns).length, .row [[.p (.int .i64 k), .p (.int .i64 n), .p (.str s), .p (.sl (rowsV is)), .p (.sl (rowsN ns))]]]) := by
  by_cases hk : (k == 7) = true
  · have hnn := hn hk
    rw [hk] at hL ⊢
    have h := loop_each (lp := lp) (k := 1) (L := loopNo lf58 0) (fun i (b : List UInt8) => tl 0 77 [(0, .sl (bs b) 0 b.length), (3, .ptr 1 0 0), (54, .p (.sl (rowsV is))), (55, .p (.int .i64 ((List.length (rowsV is) : Nat) : Int))), (56, .p (.int .i64 (i : Int)))])
      (fun _ b => [.spare 1 b.length, .row [[.p (.int .i64 k), .p (.int .i64 n), .p (.str s), .p (.sl (rowsV is)), .p (.sl (rowsN ns))]]]) (is.zip ns) (fun b x => b ++ (vcode x.2.length ++ x.2) ++ encC x.1)
      (fun b => (.exit 1, tl 0 77 [(0, .sl (bs b) 0 b.length)], [.spare 1 b.length, .row [[.p (.int .i64 k), .p (.int .i64 n), .p (.str s), .p (.sl (rowsV is)), .p (.sl (rowsN ns))]]]))
      (fun i b => b.length + (encL true (is.drop i) (ns.drop i)).length ≤ 190000000000000)
      (by
        rintro i b ⟨x, y⟩ r hx hb
        obtain ⟨ke, ne, se, ise, nse⟩ := x
        rw [List.getElem?_zip_eq_some] at hx
        obtain ⟨hx, hy⟩ := hx
        have hi := (List.getElem?_eq_some_iff.1 hx).1
        have hm := List.mem_of_getElem? hx
        have hmy := List.mem_of_getElem? hy
        have hj := (List.getElem?_eq_some_iff.1 hy).1
        have e : ns.getD i [] = y := by rw [List.getD, hy]; rfl
        rw [drop_get hx, drop_get hy] at hb
        simp only [encL, List.headD_cons, List.tail_cons, if_true, List.length_append] at hb
        refine ⟨by simp only [List.length_append]; omega, fun hr => ?_⟩
        refine vPutS_yy (L := b) (i := i) ke ne se ise nse (by rw [rowsV_len]; exact dlt hi) hx hk hj (text_runs (by rw [e]; simpa [reachBytes] using hns _ hmy)) (by rw [e]; simp only [List.length_append]; omega) (by rw [e]; exact ih _ hm _ (by simp only [List.length_append]; omega)) (by rw [nx (by omega), e]; exact hr))
      (fun b _ => by
        have e : (is.zip ns).length = is.length := by simp; omega
        rw [e]
        exact vPutS_n (by rw [rowsV_len]; exact dlt_n)) L (by simpa using hL)
    rw [encL_fold1 is ns L hnn] at h
    exact h
  · have hk' : (k == 7) = false := Bool.eq_false_iff.2 hk
    rw [hk'] at hL ⊢
    have h := loop_each (lp := lp) (k := 1) (L := loopNo lf58 0) (fun i (b : List UInt8) => tl 0 77 [(0, .sl (bs b) 0 b.length), (3, .ptr 1 0 0), (54, .p (.sl (rowsV is))), (55, .p (.int .i64 ((List.length (rowsV is) : Nat) : Int))), (56, .p (.int .i64 (i : Int)))])
      (fun _ b => [.spare 1 b.length, .row [[.p (.int .i64 k), .p (.int .i64 n), .p (.str s), .p (.sl (rowsV is)), .p (.sl (rowsN ns))]]]) is (fun b x => b ++ encC x)
      (fun b => (.exit 1, tl 0 77 [(0, .sl (bs b) 0 b.length)], [.spare 1 b.length, .row [[.p (.int .i64 k), .p (.int .i64 n), .p (.str s), .p (.sl (rowsV is)), .p (.sl (rowsN ns))]]]))
      (fun i b => b.length + (encL false (is.drop i) ns).length ≤ 190000000000000)
      (by
        rintro i b x r hx hb
        obtain ⟨ke, ne, se, ise, nse⟩ := x
        have hi := (List.getElem?_eq_some_iff.1 hx).1
        have hm := List.mem_of_getElem? hx
        rw [drop_get hx] at hb
        simp only [encL, List.length_append, Bool.false_eq_true, if_false, List.length_nil] at hb
        refine ⟨?_, fun hr => ?_⟩
        · rw [encL_ns _ ns ns.tail, List.length_append]; omega
        · exact vPutS_yn (L := b) (i := i) ke ne se ise nse (by rw [rowsV_len]; exact dlt hi) hx hk' (ih _ hm _ (by omega)) (by rw [nx (by omega)]; exact hr))
      (fun b _ => vPutS_n (by rw [rowsV_len]; exact dlt_n)) L (by simpa using hL)
    rw [encL_fold0 ns is L] at h
    exact h
theorem encC_parts {k n : Int} {s : List UInt8} {is : List Val} {ns : List (List UInt8)} : 1 ≤ (encC (.mk k n s is ns)).length ∧ ((k == 1) = false → (k == 2) = true → (encC (.mk k n s is ns)).length = 2) ∧
    ((k == 1) = false → (k == 2) = false → (k == 3) = true → (encC (.mk k n s is ns)).length = 1 + (vcode (zzN n)).length) ∧
    ((k == 1) = false → (k == 2) = false → (k == 3) = false → ((k == 4) = true ∨ (k == 5) = true) → (encC (.mk k n s is ns)).length = 1 + ((vcode s.length).length + s.length)) ∧
    ((k == 1) = false → (k == 2) = false → (k == 3) = false → (k == 4) = false → (k == 5) = false → (encC (.mk k n s is ns)).length = 1 + ((vcode is.length).length + (encL (k == 7) is ns).length)) := by
  refine ⟨by simp [encC], ?_, ?_, ?_, ?_⟩
  · intro h1 h2; simp only [encC, h1, h2]; simp
  · intro h1 h2 h3; simp only [encC, h1, h2, h3]; simp; omega
  · intro h1 h2 h3 h4; rcases h4 with h4 | h4 <;> simp only [encC, h1, h2, h3, h4] <;> simp <;> omega
  · intro h1 h2 h3 h4 h5; simp only [encC, h1, h2, h3, h4, h5]; simp; omega
theorem vPut : ∀ v, okV v → mayV v = true → ∀ L : List UInt8, L.length + (encC v).length ≤ 190000000000000 → Runs lp 58 [.sl (bs L) 0 L.length, encV v] [.spare 1 L.length] (.sl (bs (L ++ encC v)) 0 (L ++ encC v).length, [.spare 1 (L ++ encC v).length]) := by
  refine Val.ind fun k n s is ns ih hok hmay L hL => ?_
  obtain ⟨_, hn, hs, hil, hnl, hns, his⟩ := okV_inv hok
  obtain ⟨hm1, hsh⟩ := mayV_inv hmay
  obtain ⟨q0, q2, q3, q4, q6⟩ := @encC_parts k n s is ns
  have hnn : (k == 7) = true → ns.length = is.length := fun hk => by
    have hk : k = 7 := eq_of_beq hk
    rcases kinds hsh with h | h | h | h | h | h | h <;> simp_all
  refine ifE (@vPutA k n s is ns L ((L ++ [u8 k] ++ vcode is.length) ++ encL (k == 7) is ns) (by simp only [List.length_singleton]; omega) (fun h1 h2 => by have := q2 h1 h2; simp only [List.length_append, List.length_singleton]; omega) (fun _ _ _ => int_runs hn.1 hn.2)
    (fun h1 h2 h3 => by have := q3 h1 h2 h3; rw [zz_eq]; simp only [List.length_append, List.length_singleton]; omega) (fun _ _ _ _ => text_runs (by simpa [reachBytes] using hs))
    (fun h1 h2 h3 h4 => by have := q4 h1 h2 h3 (.inl h4); simp only [List.length_append, List.length_singleton]; omega) (fun _ _ _ _ _ => text_runs (by simpa [reachBytes] using hs))
    (fun h1 h2 h3 h4 h5 => by have := q4 h1 h2 h3 (.inr h5); simp only [List.length_append, List.length_singleton]; omega) (fun _ _ _ _ _ => by rw [rowsV_len]; exact count_runs (by omega))
    (fun h1 h2 h3 h4 h5 => by have := q6 h1 h2 h3 h4 h5; rw [rowsV_len]; simp only [List.length_append, List.length_singleton]; omega)
    (fun h1 h2 h3 h4 h5 => by
      have := q6 h1 h2 h3 h4 h5
      rw [rowsV_len, u8_eq]
      have := putLoop1 (k := k) (n := n) (s := s) (is := is) (ns := ns) (by omega) hns (fun v hv => ih v hv (his v hv) (hm1 v hv)) hnn (L ++ [u8 k] ++ vcode is.length) (by simp only [List.length_append, List.length_singleton]; omega)
      rw [rowsV_len] at this
      exact this)) ?_
  rw [u8_eq, u8_eq, zz_eq]
  simp only [encC]
  rcases kinds hsh with ⟨rfl, h1, h2⟩ | ⟨rfl, h1, h2⟩ | ⟨rfl, h1, h2⟩ | ⟨rfl, h1, h2⟩ | ⟨rfl, h1, h2⟩ | ⟨rfl, h2⟩ | ⟨rfl, h2⟩ <;> simp
theorem rEncLoop {k n : Int} {s : List UInt8} {is : List Val} {ns : List (List UInt8)} (hil : is.length ≤ 140737488355328) (hns : ∀ x ∈ ns, x.length ≤ 140737488351232)
    (ih : ∀ v ∈ is, (encC v).length ≤ 190000000000000 → Runs lp 45 [encV v] [] (.p (.sl (bs (encC v))), []))
    (hn : (k == 7) = true → ns.length = is.length) (L : List UInt8) (hL : L.length + (encL (k == 7) is ns).length ≤ 190000000000000) :
    LoopN lp 0 (loopNo lf45 0) (tl 0 70 [(1, .ptr 0 0 0), (3, .sl (bs L) 1 L.length), (4, .p (.int .i64 0))]) [.row [[.p (.int .i64 k), .p (.int .i64 n), .p (.str s), .p (.sl (rowsV is)), .p (.sl (rowsN ns))]], .spare 1 L.length]
      (.exit 1, tl 0 70 [(3, .sl (bs (L ++ encL (k == 7) is ns)) 1 (L ++ encL (k == 7) is ns).length)], [.row [[.p (.int .i64 k), .p (.int .i64 n), .p (.str s), .p (.sl (rowsV is)), .p (.sl (rowsN ns))]], .spare 1 (L ++ encL (k == 7) is ns).length]) := by
  by_cases hk : (k == 7) = true
  · have hnn := hn hk
    rw [hk] at hL ⊢
    have h := loop_each (lp := lp) (k := 0) (L := loopNo lf45 0) (fun i (b : List UInt8) => tl 0 70 [(1, .ptr 0 0 0), (3, .sl (bs b) 1 b.length), (4, .p (.int .i64 (i : Int)))])
      (fun _ b => [.row [[.p (.int .i64 k), .p (.int .i64 n), .p (.str s), .p (.sl (rowsV is)), .p (.sl (rowsN ns))]], .spare 1 b.length]) (is.zip ns) (fun b x => b ++ (vcode x.2.length ++ x.2) ++ encC x.1)
      (fun b => (.exit 1, tl 0 70 [(3, .sl (bs b) 1 b.length)], [.row [[.p (.int .i64 k), .p (.int .i64 n), .p (.str s), .p (.sl (rowsV is)), .p (.sl (rowsN ns))]], .spare 1 b.length]))
      (fun i b => b.length + (encL true (is.drop i) (ns.drop i)).length ≤ 190000000000000)
      (by
        rintro i b ⟨x, y⟩ r hx hb
        obtain ⟨ke, ne, se, ise, nse⟩ := x
        rw [List.getElem?_zip_eq_some] at hx
        obtain ⟨hx, hy⟩ := hx
        have hi := (List.getElem?_eq_some_iff.1 hx).1
        have hm := List.mem_of_getElem? hx
        have hmy := List.mem_of_getElem? hy
        have hj := (List.getElem?_eq_some_iff.1 hy).1
        have e : ns.getD i [] = y := by rw [List.getD, hy]; rfl
        rw [drop_get hx, drop_get hy] at hb
        simp only [encL, List.headD_cons, List.tail_cons, if_true, List.length_append] at hb
        refine ⟨by simp only [List.length_append]; omega, fun hr => ?_⟩
        refine rEncR_yy (L := b) (i := i) ke ne se ise nse (by rw [rowsV_len]; exact dlt hi) hk hj (rtext_runs (by rw [e]; simpa [reachBytes] using hns _ hmy)) (by rw [e]; simp only [List.length_append]; omega) hx (ih (Val.mk ke ne se ise nse) hm (by omega)) (by rw [e]; simp only [List.length_append]; omega) (by rw [nx (by omega), e]; exact hr))
      (fun b _ => by
        have e : (is.zip ns).length = is.length := by simp; omega
        rw [e]
        exact rEncR_n (by rw [rowsV_len]; exact dlt_n)) L (by simpa using hL)
    rw [encL_fold1 is ns L hnn] at h
    exact h
  · have hk' : (k == 7) = false := Bool.eq_false_iff.2 hk
    rw [hk'] at hL ⊢
    have h := loop_each (lp := lp) (k := 0) (L := loopNo lf45 0) (fun i (b : List UInt8) => tl 0 70 [(1, .ptr 0 0 0), (3, .sl (bs b) 1 b.length), (4, .p (.int .i64 (i : Int)))])
      (fun _ b => [.row [[.p (.int .i64 k), .p (.int .i64 n), .p (.str s), .p (.sl (rowsV is)), .p (.sl (rowsN ns))]], .spare 1 b.length]) is (fun b x => b ++ encC x)
      (fun b => (.exit 1, tl 0 70 [(3, .sl (bs b) 1 b.length)], [.row [[.p (.int .i64 k), .p (.int .i64 n), .p (.str s), .p (.sl (rowsV is)), .p (.sl (rowsN ns))]], .spare 1 b.length]))
      (fun i b => b.length + (encL false (is.drop i) ns).length ≤ 190000000000000)
      (by
        rintro i b x r hx hb
        obtain ⟨ke, ne, se, ise, nse⟩ := x
        have hi := (List.getElem?_eq_some_iff.1 hx).1
        have hm := List.mem_of_getElem? hx
        rw [drop_get hx] at hb
        simp only [encL, List.length_append, Bool.false_eq_true, if_false, List.length_nil] at hb
        refine ⟨?_, fun hr => ?_⟩
        · rw [encL_ns _ ns ns.tail, List.length_append]; omega
        · exact rEncR_yn (L := b) (i := i) ke ne se ise nse (by rw [rowsV_len]; exact dlt hi) hk' hx (ih _ hm (by omega)) (by omega) (by rw [nx (by omega)]; exact hr))
      (fun b _ => rEncR_n (by rw [rowsV_len]; exact dlt_n)) L (by simpa using hL)
    rw [encL_fold0 ns is L] at h
    exact h
theorem vcode_ne (u : Nat) : vcode u ≠ [] := fun h => by have := vcode_pos u; rw [h] at this; simp at this
theorem rEnc : ∀ v, okV v → mayV v = true → (encC v).length ≤ 190000000000000 → Runs lp 45 [encV v] [] (.p (.sl (bs (encC v))), []) := by
  refine Val.ind fun k n s is ns ih hok hmay hL => ?_
  obtain ⟨_, hn, hs, hil, hnl, hns, his⟩ := okV_inv hok
  obtain ⟨hm1, hsh⟩ := mayV_inv hmay
  obtain ⟨q0, q2, q3, q4, q6⟩ := @encC_parts k n s is ns
  have hnn : (k == 7) = true → ns.length = is.length := fun hk => by
    have hk : k = 7 := eq_of_beq hk
    rcases kinds hsh with h | h | h | h | h | h | h <;> simp_all
  have h1' : ∀ {j : Int}, j ≠ 1 → (k == j) = true → (k == 1) = false := fun hj h => by rw [eq_of_beq h]; simpa using hj
  have lp6 : ((k == 6) = true ∨ (k == 7) = true) → LoopN lp 0 (loopNo lf45 0) (tl 0 70 [(1, .ptr 0 0 0), (3, .sl (bs ([UInt8.ofNat (Int.toNat (IntKind.wrap .u8 k))] ++ vcode (List.length (rowsV is)))) 1 ([UInt8.ofNat (Int.toNat (IntKind.wrap .u8 k))] ++ vcode (List.length (rowsV is))).length), (4, .p (.int .i64 0))]) [.row [[.p (.int .i64 k), .p (.int .i64 n), .p (.str s), .p (.sl (rowsV is)), .p (.sl (rowsN ns))]], .spare 1 ([UInt8.ofNat (Int.toNat (IntKind.wrap .u8 k))] ++ vcode (List.length (rowsV is))).length]
      (.exit 1, tl 0 70 [(3, .sl (bs (([u8 k] ++ vcode is.length) ++ encL (k == 7) is ns)) 1 (([u8 k] ++ vcode is.length) ++ encL (k == 7) is ns).length)], [.row [[.p (.int .i64 k), .p (.int .i64 n), .p (.str s), .p (.sl (rowsV is)), .p (.sl (rowsN ns))]], .spare 1 (([u8 k] ++ vcode is.length) ++ encL (k == 7) is ns).length]) := fun hk => by
    have hk1 : (k == 1) = false ∧ (k == 2) = false ∧ (k == 3) = false ∧ (k == 4) = false ∧ (k == 5) = false := by
      rcases hk with hk | hk <;> rw [eq_of_beq hk] <;> decide
    have := q6 hk1.1 hk1.2.1 hk1.2.2.1 hk1.2.2.2.1 hk1.2.2.2.2
    rw [rowsV_len, u8_eq]
    exact rEncLoop (k := k) (n := n) (s := s) (is := is) (ns := ns) (by omega) hns (fun v hv => ih v hv (his v hv) (hm1 v hv)) hnn ([u8 k] ++ vcode is.length) (by simp only [List.length_append, List.length_singleton]; omega)
  refine ifE (@rEnc0 k n s is ns (([u8 k] ++ vcode is.length) ++ encL (k == 7) is ns) (fun h2 => by have := q2 (h1' (by decide) h2) h2; simp only [List.length_singleton]; omega) (fun _ _ => rint_runs hn.1 hn.2)
    (fun h2 h3 => by have := q3 (h1' (by decide) h3) h2 h3; rw [zz_eq]; simp only [List.length_singleton]; omega) (fun _ _ => vcode_ne _) (fun _ _ _ => rtext_runs (by simpa [reachBytes] using hs))
    (fun h2 h3 h4 => by have := q4 (h1' (by decide) h4) h2 h3 (.inl h4); simp only [List.length_append, List.length_singleton]; omega) (fun _ _ _ h => vcode_ne _ (List.append_eq_nil_iff.1 h).1) (fun _ _ _ _ => rtext_runs (by simpa [reachBytes] using hs))
    (fun h2 h3 h4 h5 => by have := q4 (h1' (by decide) h5) h2 h3 (.inr h5); simp only [List.length_append, List.length_singleton]; omega) (fun _ _ _ _ h => vcode_ne _ (List.append_eq_nil_iff.1 h).1) (fun _ _ _ _ _ => by rw [rowsV_len]; exact rcount_runs (by omega))
    (fun h2 h3 h4 h5 h6 => by have := q6 (h1' (by decide) h6) h2 h3 h4 h5; rw [rowsV_len]; simp only [List.length_append, List.length_singleton]; omega) (fun _ _ _ _ _ => vcode_ne _) (fun _ _ _ _ h6 => lp6 (.inl h6))
    (fun _ _ _ _ _ _ => by rw [rowsV_len]; exact rcount_runs (by omega))
    (fun h2 h3 h4 h5 _ h6 => by have := q6 (h1' (by decide) h6) h2 h3 h4 h5; rw [rowsV_len]; simp only [List.length_append, List.length_singleton]; omega) (fun _ _ _ _ _ _ => vcode_ne _) (fun _ _ _ _ _ h6 => lp6 (.inr h6))
    (fun h2 h3 h4 h5 h6 h7 => by
      rcases kinds hsh with ⟨rfl, h1, h2⟩ | ⟨rfl, h1, h2⟩ | ⟨rfl, h1, h2⟩ | ⟨rfl, h1, h2⟩ | ⟨rfl, h1, h2⟩ | ⟨rfl, h2⟩ | ⟨rfl, h2⟩ <;> simp_all
      exact rEncT_n (i := 0) (is := []) (by rfl))) ?_
  rw [u8_eq, u8_eq, zz_eq]
  simp only [encC]
  rcases kinds hsh with ⟨rfl, h1, h2⟩ | ⟨rfl, h1, h2⟩ | ⟨rfl, h1, h2⟩ | ⟨rfl, h1, h2⟩ | ⟨rfl, h1, h2⟩ | ⟨rfl, h2⟩ | ⟨rfl, h2⟩ <;> simp
  all_goals try rfl
end Go.Proofs.Ytmbjojnldbeicaa

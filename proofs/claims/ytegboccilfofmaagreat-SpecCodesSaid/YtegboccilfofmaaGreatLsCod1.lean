import Derived.Test.YtegboccilfofmaaGreatLsCodW
set_option linter.unusedVariables false
set_option maxRecDepth 100000
set_option linter.unusedSimpArgs false
namespace Go.Proofs.YtegboccilfofmaaGreat
open Go Go.LS
theorem P9 : ∀ (is : List Val) (a b : List (List UInt8)), Ci false is a = Ci false is b
 | [], _, _ => by simp [Ci]
 | v :: r, a, b => by simp only [Ci, Bool.false_eq_true, if_false]; rw [P9 r a.tail b.tail]
theorem Ui (n : Int) : zz n = zzN n := rfl
theorem O3 (n : Int) : UInt8.ofNat (Int.toNat (IntKind.wrap .u8 n)) = u8 n := rfl
theorem Zf {k n : Int} {s : List UInt8} {is : List Val} {ns : List (List UInt8)} (hil : is.length ≤ 140737488355328) (hns : ∀ x ∈ ns, x.length ≤ 140737488351232)
  (ih : ∀ v ∈ is, ∀ L : List UInt8, L.length + (Az v).length ≤ 190000000000000 → Runs lp 57 [.sl (bs L) 0 L.length, D4 v] [.spare 1 L.length] (.sl (bs (L ++ Az v)) 0 (L ++ Az v).length, [.spare 1 (L ++ Az v).length]))
  (hn : (k == 7) = true → ns.length = is.length) (L : List UInt8) (hL : L.length + (Ci (k == 7) is ns).length ≤ 190000000000000) :
  LoopN lp 1 (Ab Ls 0) (tl 0 77 [(0, .sl (bs L) 0 L.length), (3, .ptr 1 0 0), (54, .p (.sl (Ac is))), (55, .p (.int .i64 ((List.length (Ac is) : Nat) : Int))), (56, .p (.int .i64 0))]) [.spare 1 L.length, .row [[.p (.int .i64 k), .p (.int .i64 n), .p (.str s), .p (.sl (Ac is)), .p (.sl (Aa ns))]]]
   (.exit 1, tl 0 77 [(0, .sl (bs (L ++ Ci (k == 7) is ns)) 0 (L ++ Ci (k == 7) is ns).length)], [.spare 1 (L ++ Ci (k == 7) is ns).length, .row [[.p (.int .i64 k), .p (.int .i64 n), .p (.str s), .p (.sl (Ac is)), .p (.sl (Aa ns))]]]) := by
 by_cases hk : (k == 7) = true
 ·have hnn := hn hk
  rw [hk] at hL ⊢
  have h := B2 (lp := lp) (k := 1) (L := Ab Ls 0) (fun i (b : List UInt8) => tl 0 77 [(0, .sl (bs b) 0 b.length), (3, .ptr 1 0 0), (54, .p (.sl (Ac is))), (55, .p (.int .i64 ((List.length (Ac is) : Nat) : Int))), (56, .p (.int .i64 (i : Int)))])
   (fun _ b => [.spare 1 b.length, .row [[.p (.int .i64 k), .p (.int .i64 n), .p (.str s), .p (.sl (Ac is)), .p (.sl (Aa ns))]]]) (is.zip ns) (fun b x => b ++ (Ae x.2.length ++ x.2) ++ Az x.1)
   (fun b => (.exit 1, tl 0 77 [(0, .sl (bs b) 0 b.length)], [.spare 1 b.length, .row [[.p (.int .i64 k), .p (.int .i64 n), .p (.str s), .p (.sl (Ac is)), .p (.sl (Aa ns))]]]))
   (fun i b => b.length + (Ci true (is.drop i) (ns.drop i)).length ≤ 190000000000000)
   (by
     rintro i b ⟨x, y⟩ r hx hb
     obtain ⟨ke, ne, se, ise, nse⟩ := x
     rw [List.getElem?_zip_eq_some] at hx
     obtain ⟨hx, hy⟩ := hx
     have hi := (List.getElem?_eq_some_iff.1 hx).1
     have hm := List.mem_of_getElem? hx
     have hmy := List.mem_of_getElem? hy
     have hj := (List.getElem?_eq_some_iff.1 hy).1
     have e : ns.getD i [] = y := by rw [List.getD, hy]; rfl
     rw [B6 hx, B6 hy] at hb
     simp only [Ci, List.headD_cons, List.tail_cons, if_true, List.length_append] at hb
     refine ⟨by simp only [List.length_append]; omega, fun hr => ?_⟩
     refine Zb (L := b) (i := i) ke ne se ise nse (by rw [Ap]; exact dlt hi) hx hk hj (H4 (by rw [e]; simpa [reachBytes] using hns _ hmy)) (by rw [e]; simp only [List.length_append]; omega) (by rw [e]; exact ih _ hm _ (by simp only [List.length_append]; omega)) (by rw [nx (by omega), e]; exact hr))
   (fun b _ => by
     have e : (is.zip ns).length = is.length := by simp; omega
     rw [e]
     exact Ug (by rw [Ap]; exact B4)) L (by simpa using hL)
  rw [Na is ns L hnn] at h
  exact h
 ·have hk' : (k == 7) = false := Bool.eq_false_iff.2 hk
  rw [hk'] at hL ⊢
  have h := B2 (lp := lp) (k := 1) (L := Ab Ls 0) (fun i (b : List UInt8) => tl 0 77 [(0, .sl (bs b) 0 b.length), (3, .ptr 1 0 0), (54, .p (.sl (Ac is))), (55, .p (.int .i64 ((List.length (Ac is) : Nat) : Int))), (56, .p (.int .i64 (i : Int)))])
   (fun _ b => [.spare 1 b.length, .row [[.p (.int .i64 k), .p (.int .i64 n), .p (.str s), .p (.sl (Ac is)), .p (.sl (Aa ns))]]]) is (fun b x => b ++ Az x)
   (fun b => (.exit 1, tl 0 77 [(0, .sl (bs b) 0 b.length)], [.spare 1 b.length, .row [[.p (.int .i64 k), .p (.int .i64 n), .p (.str s), .p (.sl (Ac is)), .p (.sl (Aa ns))]]]))
   (fun i b => b.length + (Ci false (is.drop i) ns).length ≤ 190000000000000)
   (by
     rintro i b x r hx hb
     obtain ⟨ke, ne, se, ise, nse⟩ := x
     have hi := (List.getElem?_eq_some_iff.1 hx).1
     have hm := List.mem_of_getElem? hx
     rw [B6 hx] at hb
     simp only [Ci, List.length_append, Bool.false_eq_true, if_false, List.length_nil] at hb
     refine ⟨?_, fun hr => ?_⟩
     ·rw [P9 _ ns ns.tail, List.length_append]; omega
     ·exact Zc (L := b) (i := i) ke ne se ise nse (by rw [Ap]; exact dlt hi) hx hk' (ih _ hm _ (by omega)) (by rw [nx (by omega)]; exact hr))
   (fun b _ => Ug (by rw [Ap]; exact B4)) L (by simpa using hL)
  rw [M9 ns is L] at h
  exact h
theorem I5 {k n : Int} {s : List UInt8} {is : List Val} {ns : List (List UInt8)} : 1 ≤ (Az (.mk k n s is ns)).length ∧ ((k == 1) = false → (k == 2) = true → (Az (.mk k n s is ns)).length = 2) ∧
  ((k == 1) = false → (k == 2) = false → (k == 3) = true → (Az (.mk k n s is ns)).length = 1 + (Ae (zzN n)).length) ∧
  ((k == 1) = false → (k == 2) = false → (k == 3) = false → ((k == 4) = true ∨ (k == 5) = true) → (Az (.mk k n s is ns)).length = 1 + ((Ae s.length).length + s.length)) ∧
  ((k == 1) = false → (k == 2) = false → (k == 3) = false → (k == 4) = false → (k == 5) = false → (Az (.mk k n s is ns)).length = 1 + ((Ae is.length).length + (Ci (k == 7) is ns).length)) := by
 refine ⟨by simp [Az], ?_, ?_, ?_, ?_⟩
 ·intro h1 h2; simp only [Az, h1, h2]; simp
 ·intro h1 h2 h3; simp only [Az, h1, h2, h3]; simp; omega
 ·intro h1 h2 h3 h4; rcases h4 with h4 | h4 <;> simp only [Az, h1, h2, h3, h4] <;> simp <;> omega
 ·intro h1 h2 h3 h4 h5; simp only [Az, h1, h2, h3, h4, h5]; simp; omega
theorem vPut : ∀ v, okV v → Bx v = true → ∀ L : List UInt8, L.length + (Az v).length ≤ 190000000000000 → Runs lp 57 [.sl (bs L) 0 L.length, D4 v] [.spare 1 L.length] (.sl (bs (L ++ Az v)) 0 (L ++ Az v).length, [.spare 1 (L ++ Az v).length]) := by
 refine Val.ind fun k n s is ns ih hok hmay L hL => ?_
 obtain ⟨_, hn, hs, hil, hnl, hns, his⟩ := Cq hok
 obtain ⟨hm1, hsh⟩ := F2 hmay
 obtain ⟨q0, q2, q3, q4, q6⟩ := @I5 k n s is ns
 have hnn : (k == 7) = true → ns.length = is.length := fun hk => by
  have hk : k = 7 := eq_of_beq hk
  rcases Iq hsh with h | h | h | h | h | h | h <;> simp_all
 refine ifE (@vPutA k n s is ns L ((L ++ [u8 k] ++ Ae is.length) ++ Ci (k == 7) is ns) (by simp only [List.length_singleton]; omega) (fun h1 h2 => by have := q2 h1 h2; simp only [List.length_append, List.length_singleton]; omega) (fun _ _ _ => Rf hn.1 hn.2)
  (fun h1 h2 h3 => by have := q3 h1 h2 h3; rw [Ui]; simp only [List.length_append, List.length_singleton]; omega) (fun _ _ _ _ => H4 (by simpa [reachBytes] using hs))
  (fun h1 h2 h3 h4 => by have := q4 h1 h2 h3 (.inl h4); simp only [List.length_append, List.length_singleton]; omega) (fun _ _ _ _ _ => H4 (by simpa [reachBytes] using hs))
  (fun h1 h2 h3 h4 h5 => by have := q4 h1 h2 h3 (.inr h5); simp only [List.length_append, List.length_singleton]; omega) (fun _ _ _ _ _ => by rw [Ap]; exact E3 (by omega))
  (fun h1 h2 h3 h4 h5 => by have := q6 h1 h2 h3 h4 h5; rw [Ap]; simp only [List.length_append, List.length_singleton]; omega)
  (fun h1 h2 h3 h4 h5 => by
    have := q6 h1 h2 h3 h4 h5
    rw [Ap, O3]
    have := Zf (k := k) (n := n) (s := s) (is := is) (ns := ns) (by omega) hns (fun v hv => ih v hv (his v hv) (hm1 v hv)) hnn (L ++ [u8 k] ++ Ae is.length) (by simp only [List.length_append, List.length_singleton]; omega)
    rw [Ap] at this
    exact this)) ?_
 rw [O3, O3, Ui]
 simp only [Az]
 rcases Iq hsh with ⟨rfl, h1, h2⟩ | ⟨rfl, h1, h2⟩ | ⟨rfl, h1, h2⟩ | ⟨rfl, h1, h2⟩ | ⟨rfl, h1, h2⟩ | ⟨rfl, h2⟩ | ⟨rfl, h2⟩ <;> simp
theorem Zg {k n : Int} {s : List UInt8} {is : List Val} {ns : List (List UInt8)} (hil : is.length ≤ 140737488355328) (hns : ∀ x ∈ ns, x.length ≤ 140737488351232)
  (ih : ∀ v ∈ is, (Az v).length ≤ 190000000000000 → Runs lp 31 [D4 v] [] (.p (.sl (bs (Az v))), []))
  (hn : (k == 7) = true → ns.length = is.length) (L : List UInt8) (hL : L.length + (Ci (k == 7) is ns).length ≤ 190000000000000) :
  LoopN lp 0 (Ab Ii 0) (tl 0 70 [(1, .ptr 0 0 0), (3, .sl (bs L) 1 L.length), (4, .p (.int .i64 0))]) [.row [[.p (.int .i64 k), .p (.int .i64 n), .p (.str s), .p (.sl (Ac is)), .p (.sl (Aa ns))]], .spare 1 L.length]
   (.exit 1, tl 0 70 [(3, .sl (bs (L ++ Ci (k == 7) is ns)) 1 (L ++ Ci (k == 7) is ns).length)], [.row [[.p (.int .i64 k), .p (.int .i64 n), .p (.str s), .p (.sl (Ac is)), .p (.sl (Aa ns))]], .spare 1 (L ++ Ci (k == 7) is ns).length]) := by
 by_cases hk : (k == 7) = true
 ·have hnn := hn hk
  rw [hk] at hL ⊢
  have h := B2 (lp := lp) (k := 0) (L := Ab Ii 0) (fun i (b : List UInt8) => tl 0 70 [(1, .ptr 0 0 0), (3, .sl (bs b) 1 b.length), (4, .p (.int .i64 (i : Int)))])
   (fun _ b => [.row [[.p (.int .i64 k), .p (.int .i64 n), .p (.str s), .p (.sl (Ac is)), .p (.sl (Aa ns))]], .spare 1 b.length]) (is.zip ns) (fun b x => b ++ (Ae x.2.length ++ x.2) ++ Az x.1)
   (fun b => (.exit 1, tl 0 70 [(3, .sl (bs b) 1 b.length)], [.row [[.p (.int .i64 k), .p (.int .i64 n), .p (.str s), .p (.sl (Ac is)), .p (.sl (Aa ns))]], .spare 1 b.length]))
   (fun i b => b.length + (Ci true (is.drop i) (ns.drop i)).length ≤ 190000000000000)
   (by
     rintro i b ⟨x, y⟩ r hx hb
     obtain ⟨ke, ne, se, ise, nse⟩ := x
     rw [List.getElem?_zip_eq_some] at hx
     obtain ⟨hx, hy⟩ := hx
     have hi := (List.getElem?_eq_some_iff.1 hx).1
     have hm := List.mem_of_getElem? hx
     have hmy := List.mem_of_getElem? hy
     have hj := (List.getElem?_eq_some_iff.1 hy).1
     have e : ns.getD i [] = y := by rw [List.getD, hy]; rfl
     rw [B6 hx, B6 hy] at hb
     simp only [Ci, List.headD_cons, List.tail_cons, if_true, List.length_append] at hb
     refine ⟨by simp only [List.length_append]; omega, fun hr => ?_⟩
     refine Zd (L := b) (i := i) ke ne se ise nse (by rw [Ap]; exact dlt hi) hk hj (Dn (by rw [e]; simpa [reachBytes] using hns _ hmy)) (by rw [e]; simp only [List.length_append]; omega) hx (ih (Val.mk ke ne se ise nse) hm (by omega)) (by rw [e]; simp only [List.length_append]; omega) (by rw [nx (by omega), e]; exact hr))
   (fun b _ => by
     have e : (is.zip ns).length = is.length := by simp; omega
     rw [e]
     exact Uh (by rw [Ap]; exact B4)) L (by simpa using hL)
  rw [Na is ns L hnn] at h
  exact h
 ·have hk' : (k == 7) = false := Bool.eq_false_iff.2 hk
  rw [hk'] at hL ⊢
  have h := B2 (lp := lp) (k := 0) (L := Ab Ii 0) (fun i (b : List UInt8) => tl 0 70 [(1, .ptr 0 0 0), (3, .sl (bs b) 1 b.length), (4, .p (.int .i64 (i : Int)))])
   (fun _ b => [.row [[.p (.int .i64 k), .p (.int .i64 n), .p (.str s), .p (.sl (Ac is)), .p (.sl (Aa ns))]], .spare 1 b.length]) is (fun b x => b ++ Az x)
   (fun b => (.exit 1, tl 0 70 [(3, .sl (bs b) 1 b.length)], [.row [[.p (.int .i64 k), .p (.int .i64 n), .p (.str s), .p (.sl (Ac is)), .p (.sl (Aa ns))]], .spare 1 b.length]))
   (fun i b => b.length + (Ci false (is.drop i) ns).length ≤ 190000000000000)
   (by
     rintro i b x r hx hb
     obtain ⟨ke, ne, se, ise, nse⟩ := x
     have hi := (List.getElem?_eq_some_iff.1 hx).1
     have hm := List.mem_of_getElem? hx
     rw [B6 hx] at hb
     simp only [Ci, List.length_append, Bool.false_eq_true, if_false, List.length_nil] at hb
     refine ⟨?_, fun hr => ?_⟩
     ·rw [P9 _ ns ns.tail, List.length_append]; omega
     ·exact Ze (L := b) (i := i) ke ne se ise nse (by rw [Ap]; exact dlt hi) hk' hx (ih _ hm (by omega)) (by omega) (by rw [nx (by omega)]; exact hr))
   (fun b _ => Uh (by rw [Ap]; exact B4)) L (by simpa using hL)
  rw [M9 ns is L] at h
  exact h
theorem F5 (u : Nat) : Ae u ≠ [] := fun h => by have := Fx u; rw [h] at this; simp at this
theorem rEnc : ∀ v, okV v → Bx v = true → (Az v).length ≤ 190000000000000 → Runs lp 31 [D4 v] [] (.p (.sl (bs (Az v))), []) := by
 refine Val.ind fun k n s is ns ih hok hmay hL => ?_
 obtain ⟨_, hn, hs, hil, hnl, hns, his⟩ := Cq hok
 obtain ⟨hm1, hsh⟩ := F2 hmay
 obtain ⟨q0, q2, q3, q4, q6⟩ := @I5 k n s is ns
 have hnn : (k == 7) = true → ns.length = is.length := fun hk => by
  have hk : k = 7 := eq_of_beq hk
  rcases Iq hsh with h | h | h | h | h | h | h <;> simp_all
 have h1' : ∀ {j : Int}, j ≠ 1 → (k == j) = true → (k == 1) = false := fun hj h => by rw [eq_of_beq h]; simpa using hj
 have lp6 : ((k == 6) = true ∨ (k == 7) = true) → LoopN lp 0 (Ab Ii 0) (tl 0 70 [(1, .ptr 0 0 0), (3, .sl (bs ([UInt8.ofNat (Int.toNat (IntKind.wrap .u8 k))] ++ Ae (List.length (Ac is)))) 1 ([UInt8.ofNat (Int.toNat (IntKind.wrap .u8 k))] ++ Ae (List.length (Ac is))).length), (4, .p (.int .i64 0))]) [.row [[.p (.int .i64 k), .p (.int .i64 n), .p (.str s), .p (.sl (Ac is)), .p (.sl (Aa ns))]], .spare 1 ([UInt8.ofNat (Int.toNat (IntKind.wrap .u8 k))] ++ Ae (List.length (Ac is))).length]
   (.exit 1, tl 0 70 [(3, .sl (bs (([u8 k] ++ Ae is.length) ++ Ci (k == 7) is ns)) 1 (([u8 k] ++ Ae is.length) ++ Ci (k == 7) is ns).length)], [.row [[.p (.int .i64 k), .p (.int .i64 n), .p (.str s), .p (.sl (Ac is)), .p (.sl (Aa ns))]], .spare 1 (([u8 k] ++ Ae is.length) ++ Ci (k == 7) is ns).length]) := fun hk => by
  have hk1 : (k == 1) = false ∧ (k == 2) = false ∧ (k == 3) = false ∧ (k == 4) = false ∧ (k == 5) = false := by
   rcases hk with hk | hk <;> rw [eq_of_beq hk] <;> decide
  have := q6 hk1.1 hk1.2.1 hk1.2.2.1 hk1.2.2.2.1 hk1.2.2.2.2
  rw [Ap, O3]
  exact Zg (k := k) (n := n) (s := s) (is := is) (ns := ns) (by omega) hns (fun v hv => ih v hv (his v hv) (hm1 v hv)) hnn ([u8 k] ++ Ae is.length) (by simp only [List.length_append, List.length_singleton]; omega)
 refine ifE (@rEnc0 k n s is ns (([u8 k] ++ Ae is.length) ++ Ci (k == 7) is ns) (fun h2 => by have := q2 (h1' (by decide) h2) h2; simp only [List.length_singleton]; omega) (fun _ _ => Or hn.1 hn.2)
  (fun h2 h3 => by have := q3 (h1' (by decide) h3) h2 h3; rw [Ui]; simp only [List.length_singleton]; omega) (fun _ _ => F5 _) (fun _ _ _ => Dn (by simpa [reachBytes] using hs))
  (fun h2 h3 h4 => by have := q4 (h1' (by decide) h4) h2 h3 (.inl h4); simp only [List.length_append, List.length_singleton]; omega) (fun _ _ _ h => F5 _ (List.append_eq_nil_iff.1 h).1) (fun _ _ _ _ => Dn (by simpa [reachBytes] using hs))
  (fun h2 h3 h4 h5 => by have := q4 (h1' (by decide) h5) h2 h3 (.inr h5); simp only [List.length_append, List.length_singleton]; omega) (fun _ _ _ _ h => F5 _ (List.append_eq_nil_iff.1 h).1) (fun _ _ _ _ _ => by rw [Ap]; exact Da (by omega))
  (fun h2 h3 h4 h5 h6 => by have := q6 (h1' (by decide) h6) h2 h3 h4 h5; rw [Ap]; simp only [List.length_append, List.length_singleton]; omega) (fun _ _ _ _ _ => F5 _) (fun _ _ _ _ h6 => lp6 (.inl h6))
  (fun _ _ _ _ _ _ => by rw [Ap]; exact Da (by omega))
  (fun h2 h3 h4 h5 _ h6 => by have := q6 (h1' (by decide) h6) h2 h3 h4 h5; rw [Ap]; simp only [List.length_append, List.length_singleton]; omega) (fun _ _ _ _ _ _ => F5 _) (fun _ _ _ _ _ h6 => lp6 (.inr h6))
  (fun h2 h3 h4 h5 h6 h7 => by
    rcases Iq hsh with ⟨rfl, h1, h2⟩ | ⟨rfl, h1, h2⟩ | ⟨rfl, h1, h2⟩ | ⟨rfl, h1, h2⟩ | ⟨rfl, h1, h2⟩ | ⟨rfl, h2⟩ | ⟨rfl, h2⟩ <;> simp_all
    exact rEncT_n (i := 0) (is := []) (by rfl))) ?_
 rw [O3, O3, Ui]
 simp only [Az]
 rcases Iq hsh with ⟨rfl, h1, h2⟩ | ⟨rfl, h1, h2⟩ | ⟨rfl, h1, h2⟩ | ⟨rfl, h1, h2⟩ | ⟨rfl, h1, h2⟩ | ⟨rfl, h2⟩ | ⟨rfl, h2⟩ <;> simp
 all_goals try rfl
end Go.Proofs.YtegboccilfofmaaGreat

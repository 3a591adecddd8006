import Derived.Test.YtmbjojnldbeicaaLsCodW
set_option linter.unusedVariables false
set_option linter.unusedSimpArgs false
set_option maxRecDepth 100000
set_option linter.unusedSimpArgs false
namespace Go.Proofs.Ytmbjojnldbeicaa
open Go Go.LS
theorem Xa : ∀ (is : List Val) (a b : List (List UInt8)), Dp false is a = Dp false is b
 | [], _, _ => by simp [Dp]
 | v :: r, a, b => by simp only [Dp, Bool.false_eq_true, if_false]; rw [Xa r a.tail b.tail]
theorem zz_eq (n : Int) : zz n = zzN n := rfl
theorem u8_eq (n : Int) : UInt8.ofNat (Int.toNat (IntKind.wrap .u8 n)) = u8 n := rfl
theorem putLoop1 {k n : Int} {s : List UInt8} {is : List Val} {ns : List (List UInt8)} (hil : is.length ≤ 140737488355328) (hns : ∀ x ∈ ns, x.length ≤ 140737488351232)
  (ih : ∀ v ∈ is, ∀ L : List UInt8, L.length + (Bu v).length ≤ 190000000000000 → Runs lp 58 [.sl (bs L) 0 L.length, Es v] [.spare 1 L.length] (.sl (bs (L ++ Bu v)) 0 (L ++ Bu v).length, [.spare 1 (L ++ Bu v).length]))
  (hn : (k == 7) = true → ns.length = is.length) (L : List UInt8) (hL : L.length + (Dp (k == 7) is ns).length ≤ 190000000000000) :
  LoopN lp 1 (Ae Mx 0) (tl 0 77 [(0, .sl (bs L) 0 L.length), (3, .ptr 1 0 0), (54, .p (.sl (Ad is))), (55, .p (.int .i64 ((List.length (Ad is) : Nat) : Int))), (56, .p (.int .i64 0))]) [.spare 1 L.length, .row [[.p (.int .i64 k), .p (.int .i64 n), .p (.str s), .p (.sl (Ad is)), .p (.sl (Ak ns))]]]
   (.exit 1, tl 0 77 [(0, .sl (bs (L ++ Dp (k == 7) is ns)) 0 (L ++ Dp (k == 7) is ns).length)], [.spare 1 (L ++ Dp (k == 7) is ns).length, .row [[.p (.int .i64 k), .p (.int .i64 n), .p (.str s), .p (.sl (Ad is)), .p (.sl (Ak ns))]]]) := by
 by_cases hk : (k == 7) = true
 ·have hnn := hn hk
  rw [hk] at hL ⊢
  have h := D2 (lp := lp) (k := 1) (L := Ae Mx 0) (fun i (b : List UInt8) => tl 0 77 [(0, .sl (bs b) 0 b.length), (3, .ptr 1 0 0), (54, .p (.sl (Ad is))), (55, .p (.int .i64 ((List.length (Ad is) : Nat) : Int))), (56, .p (.int .i64 (i : Int)))])
   (fun _ b => [.spare 1 b.length, .row [[.p (.int .i64 k), .p (.int .i64 n), .p (.str s), .p (.sl (Ad is)), .p (.sl (Ak ns))]]]) (is.zip ns) (fun b x => b ++ (Ab x.2.length ++ x.2) ++ Bu x.1)
   (fun b => (.exit 1, tl 0 77 [(0, .sl (bs b) 0 b.length)], [.spare 1 b.length, .row [[.p (.int .i64 k), .p (.int .i64 n), .p (.str s), .p (.sl (Ad is)), .p (.sl (Ak ns))]]]))
   (fun i b => b.length + (Dp true (is.drop i) (ns.drop i)).length ≤ 190000000000000)
   (by
     rintro i b ⟨x, y⟩ r hx hb
     obtain ⟨ke, ne, se, ise, nse⟩ := x
     rw [List.getElem?_zip_eq_some] at hx
     obtain ⟨hx, hy⟩ := hx
     have hi := (List.getElem?_eq_some_iff.1 hx).1
     have hm := List.mem_of_getElem? hx
     have hmy := List.mem_of_getElem? hy
     have hj := (List.getElem?_eq_some_iff.1 hy).1
     have e : ns.getD i [] = y := by rw [List.getD, hy]; rfl
     rw [Km hx, Km hy] at hb
     simp only [Dp, List.headD_cons, List.tail_cons, if_true, List.length_append] at hb
     refine ⟨by simp only [List.length_append]; omega, fun hr => ?_⟩
     refine vPutS_yy (L := b) (i := i) ke ne se ise nse (by rw [A6]; exact dlt hi) hx hk hj (Lj (by rw [e]; simpa [reachBytes] using hns _ hmy)) (by rw [e]; simp only [List.length_append]; omega) (by rw [e]; exact ih _ hm _ (by simp only [List.length_append]; omega)) (by rw [nx (by omega), e]; exact hr))
   (fun b _ => by
     have e : (is.zip ns).length = is.length := by simp; omega
     rw [e]
     exact W9 (by rw [A6]; exact dlt_n)) L (by simpa using hL)
  rw [U4 is ns L hnn] at h
  exact h
 ·have hk' : (k == 7) = false := Bool.eq_false_iff.2 hk
  rw [hk'] at hL ⊢
  have h := D2 (lp := lp) (k := 1) (L := Ae Mx 0) (fun i (b : List UInt8) => tl 0 77 [(0, .sl (bs b) 0 b.length), (3, .ptr 1 0 0), (54, .p (.sl (Ad is))), (55, .p (.int .i64 ((List.length (Ad is) : Nat) : Int))), (56, .p (.int .i64 (i : Int)))])
   (fun _ b => [.spare 1 b.length, .row [[.p (.int .i64 k), .p (.int .i64 n), .p (.str s), .p (.sl (Ad is)), .p (.sl (Ak ns))]]]) is (fun b x => b ++ Bu x)
   (fun b => (.exit 1, tl 0 77 [(0, .sl (bs b) 0 b.length)], [.spare 1 b.length, .row [[.p (.int .i64 k), .p (.int .i64 n), .p (.str s), .p (.sl (Ad is)), .p (.sl (Ak ns))]]]))
   (fun i b => b.length + (Dp false (is.drop i) ns).length ≤ 190000000000000)
   (by
     rintro i b x r hx hb
     obtain ⟨ke, ne, se, ise, nse⟩ := x
     have hi := (List.getElem?_eq_some_iff.1 hx).1
     have hm := List.mem_of_getElem? hx
     rw [Km hx] at hb
     simp only [Dp, List.length_append, Bool.false_eq_true, if_false, List.length_nil] at hb
     refine ⟨?_, fun hr => ?_⟩
     ·rw [Xa _ ns ns.tail, List.length_append]; omega
     ·exact vPutS_yn (L := b) (i := i) ke ne se ise nse (by rw [A6]; exact dlt hi) hx hk' (ih _ hm _ (by omega)) (by rw [nx (by omega)]; exact hr))
   (fun b _ => W9 (by rw [A6]; exact dlt_n)) L (by simpa using hL)
  rw [U3 ns is L] at h
  exact h
theorem U7 {k n : Int} {s : List UInt8} {is : List Val} {ns : List (List UInt8)} : 1 ≤ (Bu (.mk k n s is ns)).length ∧ ((k == 1) = false → (k == 2) = true → (Bu (.mk k n s is ns)).length = 2) ∧
  ((k == 1) = false → (k == 2) = false → (k == 3) = true → (Bu (.mk k n s is ns)).length = 1 + (Ab (zzN n)).length) ∧
  ((k == 1) = false → (k == 2) = false → (k == 3) = false → ((k == 4) = true ∨ (k == 5) = true) → (Bu (.mk k n s is ns)).length = 1 + ((Ab s.length).length + s.length)) ∧
  ((k == 1) = false → (k == 2) = false → (k == 3) = false → (k == 4) = false → (k == 5) = false → (Bu (.mk k n s is ns)).length = 1 + ((Ab is.length).length + (Dp (k == 7) is ns).length)) := by
 refine ⟨by simp [Bu], ?_, ?_, ?_, ?_⟩
 ·intro h1 h2; simp only [Bu, h1, h2]; simp
 ·intro h1 h2 h3; simp only [Bu, h1, h2, h3]; simp; omega
 ·intro h1 h2 h3 h4; rcases h4 with h4 | h4 <;> simp only [Bu, h1, h2, h3, h4] <;> simp <;> omega
 ·intro h1 h2 h3 h4 h5; simp only [Bu, h1, h2, h3, h4, h5]; simp; omega
theorem vPut : ∀ v, okV v → Ce v = true → ∀ L : List UInt8, L.length + (Bu v).length ≤ 190000000000000 → Runs lp 58 [.sl (bs L) 0 L.length, Es v] [.spare 1 L.length] (.sl (bs (L ++ Bu v)) 0 (L ++ Bu v).length, [.spare 1 (L ++ Bu v).length]) := by
 refine Val.ind fun k n s is ns ih hok hmay L hL => ?_
 obtain ⟨_, hn, hs, hil, hnl, hns, his⟩ := Dv hok
 obtain ⟨hm1, hsh⟩ := Ia hmay
 obtain ⟨q0, q2, q3, q4, q6⟩ := @U7 k n s is ns
 have hnn : (k == 7) = true → ns.length = is.length := fun hk => by
  have hk : k = 7 := eq_of_beq hk
  rcases Ob hsh with h | h | h | h | h | h | h <;> simp_all
 refine ifE (@vPutA k n s is ns L ((L ++ [u8 k] ++ Ab is.length) ++ Dp (k == 7) is ns) (by simp only [List.length_singleton]; omega) (fun h1 h2 => by have := q2 h1 h2; simp only [List.length_append, List.length_singleton]; omega) (fun _ _ _ => Sd hn.1 hn.2)
  (fun h1 h2 h3 => by have := q3 h1 h2 h3; rw [zz_eq]; simp only [List.length_append, List.length_singleton]; omega) (fun _ _ _ _ => Lj (by simpa [reachBytes] using hs))
  (fun h1 h2 h3 h4 => by have := q4 h1 h2 h3 (.inl h4); simp only [List.length_append, List.length_singleton]; omega) (fun _ _ _ _ _ => Lj (by simpa [reachBytes] using hs))
  (fun h1 h2 h3 h4 h5 => by have := q4 h1 h2 h3 (.inr h5); simp only [List.length_append, List.length_singleton]; omega) (fun _ _ _ _ _ => by rw [A6]; exact Dz (by omega))
  (fun h1 h2 h3 h4 h5 => by have := q6 h1 h2 h3 h4 h5; rw [A6]; simp only [List.length_append, List.length_singleton]; omega)
  (fun h1 h2 h3 h4 h5 => by
    have := q6 h1 h2 h3 h4 h5
    rw [A6, u8_eq]
    have := putLoop1 (k := k) (n := n) (s := s) (is := is) (ns := ns) (by omega) hns (fun v hv => ih v hv (his v hv) (hm1 v hv)) hnn (L ++ [u8 k] ++ Ab is.length) (by simp only [List.length_append, List.length_singleton]; omega)
    rw [A6] at this
    exact this)) ?_
 rw [u8_eq, u8_eq, zz_eq]
 simp only [Bu]
 rcases Ob hsh with ⟨rfl, h1, h2⟩ | ⟨rfl, h1, h2⟩ | ⟨rfl, h1, h2⟩ | ⟨rfl, h1, h2⟩ | ⟨rfl, h1, h2⟩ | ⟨rfl, h2⟩ | ⟨rfl, h2⟩ <;> simp
end Go.Proofs.Ytmbjojnldbeicaa

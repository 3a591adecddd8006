import Derived.Test.YtpkmddkodchanaaLsTreW
set_option linter.unusedVariables false
set_option linter.unusedSimpArgs false
set_option maxRecDepth 100000
namespace Go.Proofs.Ytpkmddkodchanaa
open Go Go.LS
theorem sIxL {s : List UInt8} {ns : List (List UInt8)} (hl : ns.length ≤ 140737488355328) : ∀ (j i : Nat), i + j = ns.length →
  ((ns.drop i).contains s = true → ∃ m : Nat, F2 s (ns.drop i) (i : Int) = (m : Int) ∧ m < ns.length ∧ LoopN lp 0 (Aj Li 0) (tl 0 19 [(0, .p (.sl (Ab ns))), (1, .p (.str s)), (7, .p (.int .i64 ((List.length (Ab ns) : Nat) : Int))), (8, .p (.int .i64 (i : Int)))]) [] (.ret, tl 0 19 [(4, .p (.int .i64 (m : Int)))], [])) ∧
  ((ns.drop i).contains s = false → LoopN lp 0 (Aj Li 0) (tl 0 19 [(0, .p (.sl (Ab ns))), (1, .p (.str s)), (7, .p (.int .i64 ((List.length (Ab ns) : Nat) : Int))), (8, .p (.int .i64 (i : Int)))]) [] (.exit 0, tl 0 19 [], [])) := by
 intro j
 induction j with
 | zero =>
  intro i h
  obtain rfl : i = ns.length := by omega
  rw [List.drop_length]
  exact ⟨fun h => by simp at h, fun _ => sIxR_n (by rw [Ak]; exact dlt_n)⟩
 | succ j ih =>
  intro i h
  have hi : i < ns.length := by omega
  have hx : ns[i]? = some ns[i] := List.getElem?_eq_getElem hi
  have e := Iz hx
  obtain ⟨i1, i2⟩ := ih (i + 1) (by omega)
  rw [Et hx, List.contains_cons]
  cases hp : (s == ns[i]) with
  | true =>
   refine ⟨fun _ => ⟨i, by rw [F2, hp]; rfl, hi, Vf (by rw [Ak]; exact dlt hi) hi (by rw [e]; exact hp)⟩, fun h => by simp at h⟩
  | false =>
   rw [Bool.false_or]
   refine ⟨fun hc => ?_, fun hc => Qv (by rw [Ak]; exact dlt hi) hi (by rw [e]; exact hp) (by rw [nx (by omega)]; exact i2 hc)⟩
   obtain ⟨m, a, b, c⟩ := i1 hc
   exact ⟨m, by rw [F2, hp]; exact a, b, Qv (by rw [Ak]; exact dlt hi) hi (by rw [e]; exact hp) (by rw [nx (by omega)]; exact c)⟩
theorem sIndex {s : List UInt8} {ns : List (List UInt8)} (hl : ns.length ≤ 140737488355328) : Runs lp 44 [.p (.sl (Ab ns)), .p (.str s)] [] (.p (.int .i64 (F2 s ns 0)), []) := by
 obtain ⟨l1, l2⟩ := sIxL (s := s) hl ns.length 0 (by omega)
 rw [List.drop_zero] at l1 l2
 cases hc : ns.contains s with
 | true =>
  obtain ⟨m, a, b, c⟩ := l1 hc
  replace a : F2 s ns 0 = (m : Int) := a
  refine ifE (sIx0 (i := m) (fun _ => c) (fun h => by rw [hc] at h; cases h)) ?_
  rw [hc, a]; rfl
 | false =>
  refine ifE (sIx0 (i := 0) (fun h => by rw [hc] at h; cases h) (fun _ => l2 hc)) ?_
  rw [hc, Jp _ _ hc]; rfl
theorem tPlace {v : Val} {st : List UInt8} (hok : okV v) : Runs lp 28 [B9 v, .p (.str st)] [] (.p (.int .i64 (Aa v st)), []) := by
 obtain ⟨k, n, s, is, ns⟩ := v
 obtain ⟨_, hn, hs, hil, hnl, hns, his⟩ := C4 hok
 refine ifE (tPl0 (fun _ => sIndex (by omega)) (fun _ _ => pIx st)) ?_
 simp only [Aa, Ah]
 cases h7 : (k == 7) with
 | true => rfl
 | false =>
  cases h6 : (k == 6) with
  | false => rfl
  | true =>
   cases hx : C5 st with
   | none => simp <;> omega
   | some r =>
    by_cases hr : r < (is.length : Int)
    ·simp [hr]
    ·simp [hr]
theorem rPlL {k n : Int} {s st : List UInt8} {is : List Val} {ns : List (List UInt8)} (hl : ns.length ≤ 140737488355328) : ∀ (j i : Nat), i + j = ns.length →
  ((ns.drop i).contains st = true → ∃ m : Nat, F2 st (ns.drop i) (i : Int) = (m : Int) ∧ m < ns.length ∧ LoopN lp 0 (Aj Lh 0) (tl 0 36 [(1, .p (.str st)), (2, .ptr 0 0 0), (6, .p (.int .i64 (i : Int)))]) [.row [[.p (.int .i64 k), .p (.int .i64 n), .p (.str s), .p (.sl (Ac is)), .p (.sl (Ab ns))]]] (.ret, tl 0 36 [(4, .p (.int .i64 (m : Int)))], [.row [[.p (.int .i64 k), .p (.int .i64 n), .p (.str s), .p (.sl (Ac is)), .p (.sl (Ab ns))]]])) ∧
  ((ns.drop i).contains st = false → LoopN lp 0 (Aj Lh 0) (tl 0 36 [(1, .p (.str st)), (2, .ptr 0 0 0), (6, .p (.int .i64 (i : Int)))]) [.row [[.p (.int .i64 k), .p (.int .i64 n), .p (.str s), .p (.sl (Ac is)), .p (.sl (Ab ns))]]] (.exit 0, tl 0 36 [], [.row [[.p (.int .i64 k), .p (.int .i64 n), .p (.str s), .p (.sl (Ac is)), .p (.sl (Ab ns))]]])) := by
 intro j
 induction j with
 | zero =>
  intro i h
  obtain rfl : i = ns.length := by omega
  rw [List.drop_length]
  exact ⟨fun h => by simp at h, fun _ => rPlR_n (by rw [Ak]; exact dlt_n)⟩
 | succ j ih =>
  intro i h
  have hi : i < ns.length := by omega
  have hx : ns[i]? = some ns[i] := List.getElem?_eq_getElem hi
  have e := Iz hx
  obtain ⟨i1, i2⟩ := ih (i + 1) (by omega)
  rw [Et hx, List.contains_cons]
  have ec : (ns[i] == st) = (st == ns[i]) := by rw [Bool.eq_iff_iff]; simp only [beq_iff_eq]; exact ⟨fun h => h.symm, fun h => h.symm⟩
  cases hp : (st == ns[i]) with
  | true =>
   refine ⟨fun _ => ⟨i, by rw [F2, hp]; rfl, hi, Vg (by rw [Ak]; exact dlt hi) hi (by rw [e, ec]; exact hp)⟩, fun h => by simp at h⟩
  | false =>
   rw [Bool.false_or]
   refine ⟨fun hc => ?_, fun hc => Qw (by rw [Ak]; exact dlt hi) hi (by rw [e, ec]; exact hp) (by rw [nx (by omega)]; exact i2 hc)⟩
   obtain ⟨m, a, b, c⟩ := i1 hc
   exact ⟨m, by rw [F2, hp]; exact a, b, Qw (by rw [Ak]; exact dlt hi) hi (by rw [e, ec]; exact hp) (by rw [nx (by omega)]; exact c)⟩
theorem rPlace {v : Val} {st : List UInt8} (hok : okV v) : Runs lp 31 [B9 v, .p (.str st)] [] (.p (.int .i64 (Aa v st)), []) := by
 obtain ⟨k, n, s, is, ns⟩ := v
 obtain ⟨_, hn, hs, hil, hnl, hns, his⟩ := C4 hok
 obtain ⟨l1, l2⟩ := rPlL (k := k) (n := n) (s := s) (st := st) (is := is) (ns := ns) (by omega) ns.length 0 (by omega)
 rw [List.drop_zero] at l1 l2
 simp only [Aa]
 cases hc : ns.contains st with
 | true =>
  obtain ⟨m, a, b, c⟩ := l1 hc
  replace a : F2 st ns 0 = (m : Int) := a
  refine ifE (rPl0 (i := m) (fun _ => rIx st) (fun _ _ _ => c) (fun _ _ h => by rw [hc] at h; cases h)) ?_
  rw [hc, Ah]
  cases h6 : (k == 6) with
  | true =>
   have h7 : (k == 7) = false := by have := eq_of_beq h6; subst this; rfl
   rw [h7]
   by_cases hr : Option.getD (C5 st) (-1) < (is.length : Int) <;> simp [hr]
  | false => cases h7 : (k == 7) <;> simp; exact a.symm
 | false =>
  refine ifE (rPl0 (i := 0) (fun _ => rIx st) (fun _ _ h => by rw [hc] at h; cases h) (fun _ _ _ => l2 hc)) ?_
  rw [hc, Ah]
  cases h6 : (k == 6) with
  | true =>
   have h7 : (k == 7) = false := by have := eq_of_beq h6; subst this; rfl
   rw [h7]
   by_cases hr : Option.getD (C5 st) (-1) < (is.length : Int) <;> simp [hr]
  | false => cases h7 : (k == 7) <;> simp; exact (Jp _ _ hc).symm
end Go.Proofs.Ytpkmddkodchanaa

import Derived.Test.YtjafokipeodmfaaDoorLsSplW
import Derived.Test.YtjafokipeodmfaaDoorLsLaws
set_option linter.unusedVariables false
set_option linter.unusedSimpArgs false
set_option maxRecDepth 100000
namespace Go.Proofs.YtjafokipeodmfaaDoor
open Go Go.LS
theorem pIndex (p u : List UInt8) (h : p.contains 46 = false) : Runs lp 41 [.p (.str (p ++ 46 :: u)), .p (.str [46])] [] (.p (.int .i64 ((List.length (α := UInt8) p : Nat) : Int)), []) := by
  have e : Lib.indexByte (p ++ 46 :: u) ((46 : Int).toNat.toUInt8) = (p.length : Int) := index_app p u h
  have v := vIndexByte (p ++ 46 :: u) 46
  rw [e] at v
  refine ix0 (ifE (ixs0 (fun _ => v)) ?_)
  cases hk : ([46] == p ++ 46 :: u) with
  | true =>
    have := eq_of_beq hk
    cases p with
    | nil => rfl
    | cons c r => simp at this
  | false => rfl
theorem gSpL {c n : Nat} (hc : c ≤ 1000000) (hn : n = c + 1) : ∀ (k i : Nat) (u : List UInt8) (xs : List (List UInt8)), cntB 46 u = k → i + k = c → xs.length = c + 1 → u.length ≤ 1000000 →
    ∃ (u' : List UInt8) (xs' : List (List UInt8)), xs'.length = c + 1 ∧ xs'.set c u' = xs.take i ++ sp46 u ∧
      LoopN lp 0 (loopNo lf31 0) (tl 0 66 [(0, .p (.str u)), (1, .p (.str [46])), (2, .p (.int .i64 0)), (3, .p (.int .i64 (c : Int))), (9, .rs 0 0 n), (10, .p (.int .i64 (i : Int)))]) [.row (rowS (rowsN xs))]
        (.exit 0, tl 0 66 [(0, .p (.str u')), (9, .rs 0 0 n), (10, .p (.int .i64 (c : Int)))], [.row (rowS (rowsN xs'))]) := by
  intro k
  induction k with
  | zero =>
    intro i u xs h0 hi hx hu
    obtain rfl : i = c := by omega
    exact ⟨u, xs, hx, by rw [set_last hx, sp_one u (cnt_zero u h0)], gSpE_n dlt_n⟩
  | succ k ih =>
    intro i u xs h0 hi hx hu
    obtain ⟨p, r, rfl, hp, hr⟩ := cnt_split u k h0
    simp only [List.length_append, List.length_cons] at hu
    have w0 : IntKind.wrap .i64 (((List.length (α := UInt8) p : Nat) : Int) + 0) = (p.length : Int) := by rw [wrap_i64 (by omega) (by omega)]; omega
    have w1 : IntKind.wrap .i64 (((List.length (α := UInt8) p : Nat) : Int) + 1) = ((p.length + 1 : Nat) : Int) := by rw [wrap_i64 (by omega) (by omega)]; omega
    have e0 : List.take (Int.toNat (IntKind.wrap .i64 (((List.length (α := UInt8) p : Nat) : Int) + 0))) (p ++ 46 :: r) = p := by rw [w0, Int.toNat_natCast]; simp
    have e1 : List.drop (Int.toNat (IntKind.wrap .i64 (((List.length (α := UInt8) p : Nat) : Int) + 1))) (p ++ 46 :: r) = r := by
      rw [w1, Int.toNat_natCast, List.drop_append]; simp
    obtain ⟨u', xs', g1, g2, g3⟩ := ih (i + 1) r (xs.set i p) hr (by omega) (by rw [List.length_set]; exact hx) (by omega)
    refine ⟨u', xs', g1, ?_, gSpR_yn (dlt (by omega)) (pIndex p r hp) (decide_eq_false (by omega)) (by rw [w0]; omega) (by rw [w0]; simp only [List.length_append, List.length_cons]; omega) (by omega) (by omega) (by rw [w1]; omega) (by rw [w1]; simp only [List.length_append, List.length_cons]; omega) (by rw [e0, e1, nx (by omega)]; exact g3)⟩
    rw [g2, sp_app p r hp, take_set (by omega)]
    simp
theorem pGen {s : List UInt8} (hs : s.length ≤ 1000000) : Runs lp 31 [.p (.str s), .p (.str [46]), .p (.int .i64 0), .p (.int .i64 (-1))] [] (.rs 0 0 (cntB 46 s + 1), [.row (rowS (rowsN (sp46 s)))]) := by
  have hc := cnt_le s
  have w1 : IntKind.wrap .i64 (((cntB 46 s : Nat) : Int) + 1) = ((cntB 46 s + 1 : Nat) : Int) := nx (by omega)
  have w2 : IntKind.wrap .i64 (((List.length s : Nat) : Int) + 1) = ((s.length + 1 : Nat) : Int) := nx (by omega)
  have wm : (if IntKind.wrap .i64 (((List.length s : Nat) : Int) + 1) < IntKind.wrap .i64 (((cntB 46 s : Nat) : Int) + 1) then IntKind.wrap .i64 (((List.length s : Nat) : Int) + 1) else IntKind.wrap .i64 (((cntB 46 s : Nat) : Int) + 1)) = ((cntB 46 s + 1 : Nat) : Int) := by
    rw [w1, w2, if_neg (by omega)]
  have wt : IntKind.wrap .i64 (((cntB 46 s + 1 : Nat) : Int) - 1) = (cntB 46 s : Int) := by rw [wrap_i64 (by omega) (by omega)]; omega
  obtain ⟨u, xs, g1, g2, g3⟩ := gSpL (c := cntB 46 s) (n := cntB 46 s + 1) (by omega) rfl (cntB 46 s) 0 s (List.replicate (cntB 46 s + 1) []) rfl (by omega) (by simp) hs
  have h := gSp0 (s := s) (u := u) (xs := xs) ⟨1, rfl⟩ wm (by omega) (by omega) (by rw [wm, wt]; exact g3) rfl (by omega) (by omega) w1 (Nat.le_refl _) (by omega) (by rw [List.length_set]; omega)
  rw [g2] at h
  exact h
theorem pSplit {s : List UInt8} (hs : s.length ≤ 1000000) : Runs lp 23 [.p (.str s), .p (.str [46])] [] (.p (.sl (rowsN (sp46 s))), []) := by
  have h := split0 (pGen hs) (by rw [sp_len]; exact Nat.le_refl _)
  rw [← sp_len, List.take_length] at h
  exact h
theorem pParse {s : List UInt8} (hs : s.length ≤ 1000000) : Runs lp 9 [.p (.str s)] [] (if pathB (sp46 s) = true then (.tup [.p (.sl (rowsN (sp46 s))), .p (.int .i64 0)], []) else (.tup [.p (.sl []), .p (.int .i64 40)], [])) := by
  have hl : (sp46 s).length ≤ 140737488355328 := by rw [sp_len]; have := cnt_le s; omega
  have c := checked hl
  exact parse0 (pSplit hs) (fun h => by rw [if_pos h] at c; exact c) (fun h => by rw [if_neg (by rw [h]; decide)] at c; exact c)
theorem path_names {ns : List (List UInt8)} (h : pathB ns = true) : ns ≠ [] ∧ ns.length ≤ 8 ∧ (∀ x ∈ ns, x.contains 46 = false) ∧ ∀ x ∈ ns, x.length ≤ 32 := by
  simp only [pathB, Bool.and_eq_true, decide_eq_true_eq, List.all_eq_true, nameB, Bool.not_eq_true'] at h
  refine ⟨fun q => by rw [q] at h; simp at h, h.1.2, fun x hx => (h.2 x hx).1.1.1, fun x hx => (h.2 x hx).1.2⟩
theorem vJoin {ns : List (List UInt8)} (h : pathB ns = true) : Runs lp 25 [.p (.sl (rowsN ns)), .p (.str [46])] [] (.p (.str (joinB [46] ns)), []) := by
  obtain ⟨_, h1, _, h2⟩ := path_names h
  have hj := join_len ns h2
  refine ⟨1, ?_⟩
  show sJoin [.p (.sl (rowsN ns)), .p (.str [46])] [] = _
  simp only [sJoin, strsOf_rowsN]
  rw [if_pos (by rw [Bool.and_eq_true]; exact ⟨decide_eq_true (by omega), decide_eq_true (by omega)⟩)]
theorem pText {ns : List (List UInt8)} (hl : ns.length ≤ 140737488355328) : Runs lp 12 [.p (.sl (rowsN ns))] [] (if pathB ns = true then (.tup [.p (.str (joinB [46] ns)), .p (.int .i64 0)], []) else (.tup [.p (.str []), .p (.int .i64 40)], [])) :=
  text0 (pMay hl) (fun h => vJoin h)
theorem rTxL {ns : List (List UInt8)} (h8 : ns.length ≤ 8) (h32 : ∀ x ∈ ns, x.length ≤ 32) : ∀ (j i : Nat), i + j = ns.length → LoopN lp 0 (loopNo lf15 0) (tl 0 22 [(0, .p (.sl (rowsN ns))), (3, .p (.str (joinB [46] (ns.take i)))), (4, .p (.int .i64 (i : Int)))]) []
    (.exit 0, tl 0 22 [(3, .p (.str (joinB [46] ns)))], []) := by
  intro j
  induction j with
  | zero =>
    intro i h
    obtain rfl : i = ns.length := by omega
    rw [List.take_length]
    exact rTxR_n (by rw [rowsN_len]; exact dlt_n)
  | succ j ih =>
    intro i h
    have hi : i < ns.length := by omega
    have hx : ns[i]? = some ns[i] := List.getElem?_eq_getElem hi
    have e := getD_get hx
    have hxl := h32 _ (List.mem_of_getElem? hx)
    have hj := join_len (ns.take i) (fun x hx => h32 x (List.mem_of_mem_take hx))
    rw [List.length_take] at hj
    have et : ns.take (i + 1) = ns.take i ++ [ns[i]] := by rw [List.take_add_one, hx]; rfl
    have := ih (i + 1) (by omega)
    rw [et] at this
    by_cases h0 : 0 < i
    · rw [join_snoc [46] _ _ (by intro q; have := congrArg List.length q; rw [List.length_take, List.length_nil] at this; omega)] at this
      exact rTxR_yy (by rw [rowsN_len]; exact dlt hi) (decide_eq_true (by omega)) (by simp only [List.length_cons, List.length_nil]; omega) hi (by rw [e]; simp only [List.length_append, List.length_cons, List.length_nil]; omega) (by rw [e, nx (by omega)]; exact this)
    · obtain rfl : i = 0 := by omega
      simp only [List.take_zero, List.nil_append] at this ⊢
      exact rTxR_yn (by rw [rowsN_len]; exact dlt hi) (decide_eq_false (by omega)) hi (by rw [e]; simp only [joinB, List.length_nil]; omega) (by rw [e, nx (by omega)]; exact this)
theorem rText {ns : List (List UInt8)} (h : pathB ns = true) : Runs lp 15 [.p (.sl (rowsN ns))] [] (.p (.str (joinB [46] ns)), []) := by
  obtain ⟨_, h1, _, h2⟩ := path_names h
  exact rTx0 (rTxL h1 h2 ns.length 0 (by omega))
theorem lawTx {ns : List (List UInt8)} (hn : ns.length ≤ 140737488355328) (sn : ∀ x ∈ ns, x.length ≤ 140737488355328) : Runs lp 4 [.p (.sl (rowsN ns))] [] (.p (.bool true), []) := by
  have dn : decide (((List.length (rowsN ns) : Nat) : Int) > 50) = false → ns.length ≤ 50 := fun h => by have := of_decide_eq_false h; rw [rowsN_len] at this; omega
  have m1 := pMay hn
  have m2 := rpMay hn sn
  have no : ∀ {x : Prop}, pathB [] = true → x := fun h => by simp [pathB] at h
  have no2 : ∀ {x : Prop}, decide (ns = []) = true → pathB ns = true → x := fun h g => by have h := of_decide_eq_true h; subst h; exact no g
  have tT : pathB ns = true → _ := fun h => by have := pText hn; rw [if_pos h] at this; exact this
  have tF : pathB ns = false → _ := fun h => by have := pText hn; rw [if_neg (by rw [h]; decide)] at this; exact this
  have t0 : Runs lp 12 [.p (.sl [])] [] (.tup [.p (.str []), .p (.int .i64 40)], []) := by have := pText (ns := []) (by simp); rw [if_neg (by simp [pathB])] at this; exact this
  have ps : pathB ns = true → Runs lp 9 [.p (.str (joinB [46] ns))] [] (.tup [.p (.sl (rowsN ns)), .p (.int .i64 0)], []) := fun h => by
    obtain ⟨a, b, c, d⟩ := path_names h
    have hj := join_len ns d
    have := pParse (s := joinB [46] ns) (by omega)
    rw [sp_join ns a c, if_pos h] at this
    exact this
  have rs : Runs lp 13 [.p (.sl (rowsN ns)), .p (.sl (rowsN ns))] [] (.p (.bool (ns == ns)), []) := rpSame hn
  refine ifE (lawT (fun _ => lives) (fun hn_ h1_ h0_ => no h0_) (fun hn_ h1_ h0_ => no h0_) (fun hn_ h1_ h0_ => no h0_) (fun hn_ h1_ h0_ => no h0_) (fun hn_ h1_ h0_ hp_ _ => no h0_) (fun hn_ h1_ h0_ hp_ _ => no h0_) (fun hn_ h1_ h0_ hp_ _ _ => no h0_) (fun hn_ h1_ h0_ hp_ _ => no h0_) (fun hn_ h1_ h0_ hp_ _ => no h0_) (fun hn_ h1_ h0_ => t0) (fun hn_ h1_ h0_ => lives) (fun hn_ h1_ h0_ => m1) (fun hn_ h1_ h0_ => m2) (fun hn_ h1_ h0_ hp_ _ => no2 h1_ hp_) (fun hn_ h1_ h0_ hp_ _ => no2 h1_ hp_) (fun hn_ h1_ => by have := dn hn_; omega) (fun hn_ h1_ hp_ => tT hp_) (fun hn_ h1_ hp_ => lives) (fun hn_ h1_ hp_ => m1) (fun hn_ h1_ hp_ => m2) (fun hn_ h1_ hp_ => ps hp_) (fun hn_ h1_ hp_ => rText hp_) (fun hn_ h1_ hp_ => rs) (fun hn_ h1_ hp_ => tF hp_) (fun hn_ h1_ hp_ => lives) (fun hn_ h1_ hp_ => m1) (fun hn_ h1_ hp_ => m2)) ?_
  cases hp : pathB ns with
  | true =>
    have h1 : ns ≠ [] := (path_names hp).1
    simp [h1]
  | false =>
    by_cases h1 : ns = []
    · subst h1; simp [pathB]
    · simp [h1]
end Go.Proofs.YtjafokipeodmfaaDoor

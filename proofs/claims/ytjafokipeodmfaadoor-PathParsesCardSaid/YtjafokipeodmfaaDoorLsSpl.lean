import Derived.Test.YtjafokipeodmfaaDoorLsSplW
import Derived.Test.YtjafokipeodmfaaDoorLsLaws
set_option linter.unusedVariables false
set_option linter.unusedSimpArgs false
set_option maxRecDepth 100000
namespace Go.Proofs.YtjafokipeodmfaaDoor
open Go Go.LS
theorem rSplL {s : List UInt8} (hs : s.length ≤ 1000000) : ∀ (j i : Nat) (xs : List (List UInt8)), i + j = s.length → 0 < xs.length → xs.length ≤ i + 1 → (∀ x ∈ xs, x.length ≤ i) →
    LoopN lp 0 (loopNo lf10 0) (tl 0 37 [(0, .p (.str s)), (3, .rs 0 0 (List.length xs)), (4, .p (.int .i64 (i : Int)))]) [.row (rowS (rowsN xs))]
      (.exit 0, tl 0 37 [(3, .rs 0 0 (List.length ((s.drop i).foldl addP xs)))], [.row (rowS (rowsN ((s.drop i).foldl addP xs)))]) := by
  intro j
  induction j with
  | zero =>
    intro i xs h _ _ _
    obtain rfl : i = s.length := by omega
    rw [List.drop_length, List.foldl_nil]
    exact rSpR_n dlt_n
  | succ j ih =>
    intro i xs h h0 h1 h2
    have hi : i < s.length := by omega
    have hx : s[i]? = some s[i] := List.getElem?_eq_getElem hi
    have e : s.getD i 0 = s[i] := by rw [List.getD, hx]; rfl
    rw [drop_get hx, List.foldl_cons]
    cases hc : (s[i] == 46) with
    | true =>
      have c2 : (((s.getD i 0).toNat : Int) == 46) = true := by rw [e]; have : s[i] = 46 := by simpa using hc
                                                                rw [this]; rfl
      have ea : addP xs s[i] = xs ++ [[]] := by simp [addP, hc]
      have := ih (i + 1) (xs ++ [[]]) (by omega) (by simp) (by simp; omega) (fun x hx => by rcases List.mem_append.1 hx with q | q; exact Nat.le_succ_of_le (h2 x q); simp at q; subst q; simp)
      rw [ea]
      exact rSpR_yy (dlt hi) hi c2 h0 (by omega) (by rw [nx (by omega)]; exact this)
    | false =>
      have c2 : (((s.getD i 0).toNat : Int) == 46) = false := by
        rw [e]
        simp only [beq_eq_false_iff_ne, ne_eq] at hc ⊢
        exact fun q => hc (UInt8.toNat_inj.1 (by have : s[i].toNat = 46 := by omega
                                                 exact this))
      have hw : IntKind.wrap .i64 (((xs.length : Nat) : Int) - 1) = ((xs.length - 1 : Nat) : Int) := by rw [wrap_i64 (by omega) (by omega)]; omega
      have hn := nx (i := i) (by omega)
      have et : List.drop (Int.toNat (i : Int)) (List.take (Int.toNat (IntKind.wrap .i64 ((i : Int) + 1))) s) = [s[i]] := by
        rw [hn, Int.toNat_natCast, Int.toNat_natCast, List.drop_take, drop_get hx, Nat.add_sub_cancel_left]; rfl
      have ea : addP xs s[i] = xs.set (xs.length - 1) (xs.getD (xs.length - 1) [] ++ [s[i]]) := by simp [addP, hc]
      have hlast : (xs.getD (xs.length - 1) []).length ≤ i := by
        have hx2 : xs[xs.length - 1]? = some xs[xs.length - 1] := List.getElem?_eq_getElem (by omega)
        rw [List.getD, hx2]
        exact h2 _ (List.mem_of_getElem? hx2)
      have := ih (i + 1) (xs.set (xs.length - 1) (xs.getD (xs.length - 1) [] ++ [s[i]])) (by omega) (by rw [List.length_set]; omega) (by rw [List.length_set]; omega)
        (fun x hx => by rcases List.mem_or_eq_of_mem_set hx with q | q; exact Nat.le_succ_of_le (h2 x q); subst q; simp; exact hlast)
      rw [ea]
      exact rSpR_yn (dlt hi) hi c2 hw (by omega) (by omega) (by rw [hn]; omega) (by rw [hn]; omega) (by rw [et]; simp only [List.length_cons, List.length_nil]; omega) (by rw [et, hn, List.length_set] at *; exact this)
theorem rSplit {s : List UInt8} (hs : s.length ≤ 1000000) : Runs lp 10 [.p (.str s)] [] (.p (.sl (rowsN (sp46 s))), []) := by
  have l := rSplL hs s.length 0 [[]] (by omega) (by simp) (by simp) (by simp)
  rw [List.drop_zero, fold_sp] at l
  exact rSp0 l
theorem pIndex (p u : List UInt8) (h : p.contains 46 = false) : Runs lp 41 [.p (.str (p ++ 46 :: u)), .p (.str [46])] [] (.p (.int .i64 ((List.length (α := UInt8) p : Nat) : Int)), []) := by
  have e : Lib.indexByte (p ++ 46 :: u) ((46 : Int).toNat.toUInt8) = (p.length : Int) := index_app p u h
  have v := vIndexByte (p ++ 46 :: u) 46
  rw [e] at v
  refine ix0 (ifE (ixs0 (fun _ => v)) ?_)
  cases hk : ([46] == p ++ 46 :: u) with
  | true =>
    have := eq_of_beq hk
    cases p with
    | nil => rfl
    | cons c r => simp at this
  | false => rfl
theorem gSpL {c n : Nat} (hc : c ≤ 1000000) (hn : n = c + 1) : ∀ (k i : Nat) (u : List UInt8) (xs : List (List UInt8)), cntB 46 u = k → i + k = c → xs.length = c + 1 → u.length ≤ 1000000 →
    ∃ (u' : List UInt8) (xs' : List (List UInt8)), xs'.length = c + 1 ∧ xs'.set c u' = xs.take i ++ sp46 u ∧
      LoopN lp 0 (loopNo lf31 0) (tl 0 66 [(0, .p (.str u)), (1, .p (.str [46])), (2, .p (.int .i64 0)), (3, .p (.int .i64 (c : Int))), (9, .rs 0 0 n), (10, .p (.int .i64 (i : Int)))]) [.row (rowS (rowsN xs))]
        (.exit 0, tl 0 66 [(0, .p (.str u')), (9, .rs 0 0 n), (10, .p (.int .i64 (c : Int)))], [.row (rowS (rowsN xs'))]) := by
  intro k
  induction k with
  | zero =>
    intro i u xs h0 hi hx hu
    obtain rfl : i = c := by omega
    exact ⟨u, xs, hx, by rw [set_last hx, sp_one u (cnt_zero u h0)], gSpE_n dlt_n⟩
  | succ k ih =>
    intro i u xs h0 hi hx hu
    obtain ⟨p, r, rfl, hp, hr⟩ := cnt_split u k h0
    simp only [List.length_append, List.length_cons] at hu
    have w0 : IntKind.wrap .i64 (((List.length (α := UInt8) p : Nat) : Int) + 0) = (p.length : Int) := by rw [wrap_i64 (by omega) (by omega)]; omega
    have w1 : IntKind.wrap .i64 (((List.length (α := UInt8) p : Nat) : Int) + 1) = ((p.length + 1 : Nat) : Int) := by rw [wrap_i64 (by omega) (by omega)]; omega
    have e0 : List.take (Int.toNat (IntKind.wrap .i64 (((List.length (α := UInt8) p : Nat) : Int) + 0))) (p ++ 46 :: r) = p := by rw [w0, Int.toNat_natCast]; simp
    have e1 : List.drop (Int.toNat (IntKind.wrap .i64 (((List.length (α := UInt8) p : Nat) : Int) + 1))) (p ++ 46 :: r) = r := by
      rw [w1, Int.toNat_natCast, List.drop_append]; simp
    obtain ⟨u', xs', g1, g2, g3⟩ := ih (i + 1) r (xs.set i p) hr (by omega) (by rw [List.length_set]; exact hx) (by omega)
    refine ⟨u', xs', g1, ?_, gSpR_yn (dlt (by omega)) (pIndex p r hp) (decide_eq_false (by omega)) (by rw [w0]; omega) (by rw [w0]; simp only [List.length_append, List.length_cons]; omega) (by omega) (by omega) (by rw [w1]; omega) (by rw [w1]; simp only [List.length_append, List.length_cons]; omega) (by rw [e0, e1, nx (by omega)]; exact g3)⟩
    rw [g2, sp_app p r hp, take_set (by omega)]
    simp
theorem pGen {s : List UInt8} (hs : s.length ≤ 1000000) : Runs lp 31 [.p (.str s), .p (.str [46]), .p (.int .i64 0), .p (.int .i64 (-1))] [] (.rs 0 0 (cntB 46 s + 1), [.row (rowS (rowsN (sp46 s)))]) := by
  have hc := cnt_le s
  have w1 : IntKind.wrap .i64 (((cntB 46 s : Nat) : Int) + 1) = ((cntB 46 s + 1 : Nat) : Int) := nx (by omega)
  have w2 : IntKind.wrap .i64 (((List.length s : Nat) : Int) + 1) = ((s.length + 1 : Nat) : Int) := nx (by omega)
  have wm : (if IntKind.wrap .i64 (((List.length s : Nat) : Int) + 1) < IntKind.wrap .i64 (((cntB 46 s : Nat) : Int) + 1) then IntKind.wrap .i64 (((List.length s : Nat) : Int) + 1) else IntKind.wrap .i64 (((cntB 46 s : Nat) : Int) + 1)) = ((cntB 46 s + 1 : Nat) : Int) := by
    rw [w1, w2, if_neg (by omega)]
  have wt : IntKind.wrap .i64 (((cntB 46 s + 1 : Nat) : Int) - 1) = (cntB 46 s : Int) := by rw [wrap_i64 (by omega) (by omega)]; omega
  obtain ⟨u, xs, g1, g2, g3⟩ := gSpL (c := cntB 46 s) (n := cntB 46 s + 1) (by omega) rfl (cntB 46 s) 0 s (List.replicate (cntB 46 s + 1) []) rfl (by omega) (by simp) hs
  have h := gSp0 (s := s) (u := u) (xs := xs) ⟨1, rfl⟩ wm (by omega) (by omega) (by rw [wm, wt]; exact g3) rfl (by omega) (by omega) w1 (Nat.le_refl _) (by omega) (by rw [List.length_set]; omega)
  rw [g2] at h
  exact h
theorem pSplit {s : List UInt8} (hs : s.length ≤ 1000000) : Runs lp 23 [.p (.str s), .p (.str [46])] [] (.p (.sl (rowsN (sp46 s))), []) := by
  have h := split0 (pGen hs) (by rw [sp_len]; exact Nat.le_refl _)
  rw [← sp_len, List.take_length] at h
  exact h
theorem pParse {s : List UInt8} (hs : s.length ≤ 1000000) : Runs lp 9 [.p (.str s)] [] (if pathB (sp46 s) = true then (.tup [.p (.sl (rowsN (sp46 s))), .p (.int .i64 0)], []) else (.tup [.p (.sl []), .p (.int .i64 40)], [])) := by
  have hl : (sp46 s).length ≤ 140737488355328 := by rw [sp_len]; have := cnt_le s; omega
  have c := checked hl
  exact parse0 (pSplit hs) (fun h => by rw [if_pos h] at c; exact c) (fun h => by rw [if_neg (by rw [h]; decide)] at c; exact c)
theorem path_names {ns : List (List UInt8)} (h : pathB ns = true) : ns ≠ [] ∧ ns.length ≤ 8 ∧ (∀ x ∈ ns, x.contains 46 = false) ∧ ∀ x ∈ ns, x.length ≤ 32 := by
  simp only [pathB, Bool.and_eq_true, decide_eq_true_eq, List.all_eq_true, nameB, Bool.not_eq_true'] at h
  refine ⟨fun q => by rw [q] at h; simp at h, h.1.2, fun x hx => (h.2 x hx).1.1.1, fun x hx => (h.2 x hx).1.2⟩
theorem vJoin {ns : List (List UInt8)} (h : pathB ns = true) : Runs lp 25 [.p (.sl (rowsN ns)), .p (.str [46])] [] (.p (.str (joinB [46] ns)), []) := by
  obtain ⟨_, h1, _, h2⟩ := path_names h
  have hj := join_len ns h2
  refine ⟨1, ?_⟩
  show sJoin [.p (.sl (rowsN ns)), .p (.str [46])] [] = _
  simp only [sJoin, strsOf_rowsN]
  rw [if_pos (by rw [Bool.and_eq_true]; exact ⟨decide_eq_true (by omega), decide_eq_true (by omega)⟩)]
theorem pText {ns : List (List UInt8)} (hl : ns.length ≤ 140737488355328) : Runs lp 12 [.p (.sl (rowsN ns))] [] (if pathB ns = true then (.tup [.p (.str (joinB [46] ns)), .p (.int .i64 0)], []) else (.tup [.p (.str []), .p (.int .i64 40)], [])) :=
  text0 (pMay hl) (fun h => vJoin h)
theorem lawPs {s : List UInt8} (hz : s.length ≤ 140737488355328) : Runs lp 3 [.p (.str s)] [] (.p (.bool true), []) := by
  have g : decide (((List.length s : Nat) : Int) > 2000) = false → s.length ≤ 2000 := fun h => by have := of_decide_eq_false h; omega
  have hl : s.length ≤ 2000 → (sp46 s).length ≤ 140737488355328 := fun h => by rw [sp_len]; have := cnt_le s; omega
  have sl : s.length ≤ 2000 → ∀ x ∈ sp46 s, x.length ≤ 140737488355328 := fun h => by
    intro x hx
    have : ∀ (t : List UInt8), ∀ y ∈ sp46 t, y.length ≤ t.length := by
      intro t
      induction t with
      | nil => intro y hy; simp [sp46] at hy; subst hy; simp
      | cons c r ih =>
        intro y hy
        obtain ⟨p, q, e⟩ := sp_cons r
        rw [e] at ih
        simp only [sp46, e] at hy
        split at hy
        · rcases List.mem_cons.1 hy with rfl | hy
          · simp
          · have := ih y hy; simp; omega
        · rcases List.mem_cons.1 hy with rfl | hy
          · have := ih p (by simp); simp; exact this
          · have := ih y (List.mem_cons_of_mem _ hy); simp; omega
    have := this s x hx
    omega
  have pT : s.length ≤ 2000 → pathB (sp46 s) = true → _ := fun a h => by have := pParse (s := s) (by omega); rw [if_pos h] at this; exact this
  have pF : s.length ≤ 2000 → pathB (sp46 s) = false → _ := fun a h => by have := pParse (s := s) (by omega); rw [if_neg (by rw [h]; decide)] at this; exact this
  have tT : s.length ≤ 2000 → pathB (sp46 s) = true → _ := fun a h => by have := pText (hl a); rw [if_pos h] at this; exact this
  refine ifE (lawP (fun _ => lives) (fun hn_ hp_ => pT (g hn_) hp_) (fun hn_ hp_ => rSplit (by have := g hn_; omega)) (fun hn_ hp_ => lives) (fun hn_ hp_ => rpMay (hl (g hn_)) (sl (g hn_))) (fun hn_ hp_ => tT (g hn_) hp_) (fun hn_ hp_ => rpSame (hl (g hn_))) (fun hn_ hp_ => pMay (hl (g hn_))) (fun hn_ hp_ => pF (g hn_) hp_) (fun hn_ hp_ => rSplit (by have := g hn_; omega)) (fun hn_ hp_ => lives) (fun hn_ hp_ => rpMay (hl (g hn_)) (sl (g hn_)))) ?_
  rw [join_sp]
  split
  · rfl
  · cases pathB (sp46 s) <;> simp
end Go.Proofs.YtjafokipeodmfaaDoor

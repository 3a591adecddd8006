import Derived.Test.YtgdbbmckmphnhaaLsDskW
import Derived.Test.YtgdbbmckmphnhaaLsG8
import Derived.KernelRfl
set_option linter.unusedVariables false
set_option linter.unusedSimpArgs false
set_option maxRecDepth 100000
namespace Go.Proofs.Ytgdbbmckmphnhaa
open Go Go.LS
noncomputable def lq : LProg := lpL lp [5, 6, 8, 9, 10, 11, 12, 13] [7]
theorem prq : PR Try.prog lq := prL pr [5, 6, 8, 9, 10, 11, 12, 13] [7] (by kernel_rfl)
theorem fzF {E E' : List FileT} {sp tn sp' tn' : Int} {off off' : Bool} {v : PV} : gc (dS E sp tn off).length [.p v] ((dS E' sp' tn' off').map frzMap) = some ([.p v], dS E' sp' tn' off') := by
  show gc 2 _ [frzMap (.row _), frzMap (.map (kvF E'))] = _
  rw [frzMap_kvF]; exact gc_disk0
theorem fzT0 {E E' : List FileT} {sp tn sp' tn' : Int} {off off' : Bool} {v : PV} {s M : List UInt8} {u : Int} : gc (dS E sp tn off).length [.p v] ([LObj.row [[.mp 1, .p (.int .i64 sp'), .p (.int .i64 tn'), .p (.bool off')]], .map (kvT s (.tight (bs M)) u E')].map frzMap) = some ([.p v], dS (fset s M u E') sp' tn' off') := by
  show gc 2 _ [frzMap (.row _), frzMap (.map (kvT s (.tight (bs M)) u E'))] = _
  rw [frzMap_kvT s rfl]; exact gc_disk0
theorem fzT1 {E E' : List FileT} {sp tn sp' tn' : Int} {off off' : Bool} {v : PV} {s M : List UInt8} {u : Int} {t n k m : Nat} : gc (dS E sp tn off).length [.p v] ([LObj.row [[.mp 1, .p (.int .i64 sp'), .p (.int .i64 tn'), .p (.bool off')]], .map (kvT s (.sl (bs M) t n) u E'), .spare k m].map frzMap) = some ([.p v], dS (fset s M u E') sp' tn' off') := by
  show gc 2 _ [frzMap (.row _), frzMap (.map (kvT s (.sl (bs M) t n) u E')), frzMap (.spare k m)] = _
  rw [frzMap_kvT s rfl]; exact gc_disk1
theorem gsR {E : List FileT} {sp tn : Int} {off : Bool} (h : sp ≤ 9223372036854775807) : Runs lp 22 [(.ptr 0 0 0)] (dS E sp tn off) ((.p (.bool (sp == 0))), dS E (decI sp) tn (sp == 0)) := by
  have h1 := dGoes (E := E) (sp := sp) (tn := tn) (off := off)
  unfold decI
  by_cases hc : sp > 0
  · rw [if_pos (decide_eq_true hc), wrap_i64 (by omega) (by omega)] at h1
    rw [if_pos hc]
    exact h1
  · rw [if_neg (by simpa using hc)] at h1
    rw [if_neg hc]
    exact h1
theorem clR {M : List UInt8} (h : M.length ≤ 200000000000000) : Runs lp 29 [.p (.sl (bs M))] [] (.p (.sl (bs M)), []) := by
  by_cases hm : M = []
  · subst hm; exact ⟨40, by kernel_rfl⟩
  · have h1 := dClone (M := M) hm (by simpa using h)
    rw [if_neg (by simpa using hm)] at h1
    simpa using h1
theorem appR {E : List FileT} {sp tn : Int} {off : Bool} {s X : List UInt8} (hE : OKE E) (hs : sp ≤ 9223372036854775807) (ht : 0 ≤ tn) (hX : X.length ≤ 10000000000) :
    Runs lq 7 [.ptr 0 0 0, .p (.str s), .p (.sl (bs X))] (dS E sp tn off) (.p (.int .i64 (appF E sp tn off s X).1), dS (appF E sp tn off s X).2.1 (appF E sp tn off s X).2.2.1 tn (appF E sp tn off s X).2.2.2) := by
  obtain ⟨g1, g2, g3⟩ := fget_oke hE s
  have hw : IntKind.wrap .i64 (1048576 - ((List.length (bs ((fget s E).1)) : Nat) : Int)) = 1048576 - ((fget s E).1.length : Int) := by rw [bs_len]; exact wrap_i64 (by omega) (by omega)
  have hmin : 0 ≤ (if tn < ((List.length (bs X) : Nat) : Int) then tn else ((List.length (bs X) : Nat) : Int)) := by split <;> omega
  have hmin2 : (if tn < ((List.length (bs X) : Nat) : Int) then tn else ((List.length (bs X) : Nat) : Int)) ≤ (X.length : Int) := by rw [bs_len]; split <;> omega
  have htk : (List.take (Int.toNat (if tn < ((List.length (bs X) : Nat) : Int) then tn else ((List.length (bs X) : Nat) : Int))) X).length ≤ X.length := by rw [List.length_take]; omega
  have h := dApp (E := E) (sp := sp) (tn := tn) (off := off) (s := s) (M := []) (X := X) (fun _ _ _ _ => gsR hs) (fun _ _ _ _ _ => hmin) (fun _ _ _ _ _ => hmin2) (fun _ _ _ _ _ _ => by omega) (fun _ _ _ _ _ _ => by omega)
    (fun _ _ _ _ _ => gsR hs) (fun _ _ _ _ _ _ => hmin) (fun _ _ _ _ _ _ => hmin2) (fun _ _ _ _ _ _ => by simp only [List.length_nil]; omega) (fun _ _ _ _ _ _ => by simp only [List.length_nil]; omega)
  rw [hw] at h
  simp only [bs_len] at h
  by_cases h1 : off = true
  · rw [if_pos h1] at h
    rw [show appF E sp tn off s X = (90, E, sp, off) by unfold appF; rw [if_pos h1]]
    exact h.fz fzF rfl
  rw [if_neg h1] at h
  by_cases h2 : nmB s = true
  case neg =>
    rw [if_neg h2] at h
    rw [show appF E sp tn off s X = (1, E, sp, off) by unfold appF; rw [if_neg h1, if_neg h2]]
    exact h.fz fzF rfl
  rw [if_pos h2] at h
  by_cases h3 : fhas s E = true
  · rw [if_pos h3] at h
    by_cases h4 : (X.length : Int) > 1048576 - ((fget s E).1.length : Int)
    · rw [if_pos (decide_eq_true h4)] at h
      rw [show appF E sp tn off s X = (2, E, sp, off) by unfold appF; rw [if_neg h1, if_pos h2, if_pos h3, if_pos h4]]
      exact h.fz fzF rfl
    rw [if_neg (by simpa using h4)] at h
    by_cases h5 : (sp == 0) = true
    · rw [if_pos h5] at h
      rw [show appF E sp tn off s X = (90, fset s ((fget s E).1 ++ List.take (Int.toNat (if tn < (X.length : Int) then tn else (X.length : Int))) X) (fget s E).2 E, decI sp, sp == 0) by unfold appF cutX; rw [if_neg h1, if_pos h2, if_pos h3, if_neg h4, if_pos h5, if_pos h5]]
      by_cases h6 : List.take (Int.toNat (if tn < (X.length : Int) then tn else (X.length : Int))) X = []
      · rw [if_pos (decide_eq_true h6)] at h
        rw [h6, List.append_nil]
        exact h.fz fzT0 rfl
      · rw [if_neg (by simpa using h6)] at h
        exact h.fz fzT1 rfl
    · rw [if_neg h5] at h
      rw [show appF E sp tn off s X = (0, fset s ((fget s E).1 ++ X) (fget s E).2 E, decI sp, sp == 0) by unfold appF cutX; rw [if_neg h1, if_pos h2, if_pos h3, if_neg h4, if_neg h5, if_neg h5]]
      by_cases h6 : X = []
      · rw [if_pos (decide_eq_true h6)] at h
        subst h6
        rw [List.append_nil]
        exact h.fz fzT0 rfl
      · rw [if_neg (by simpa using h6)] at h
        exact h.fz fzT1 rfl
  · rw [if_neg h3] at h
    by_cases h4 : (X.length : Int) > 1048576
    · rw [if_pos (decide_eq_true h4)] at h
      rw [show appF E sp tn off s X = (2, E, sp, off) by unfold appF; rw [if_neg h1, if_pos h2, if_neg h3, if_pos h4]]
      exact h.fz fzF rfl
    rw [if_neg (by simpa using h4)] at h
    by_cases h7 : (((E.length : Nat) : Int) == 256) = true
    · rw [if_pos h7] at h
      rw [show appF E sp tn off s X = (2, E, sp, off) by unfold appF; rw [if_neg h1, if_pos h2, if_neg h3, if_neg h4, if_pos h7]]
      exact h.fz fzF rfl
    rw [if_neg h7] at h
    by_cases h5 : (sp == 0) = true
    · rw [if_pos h5] at h
      rw [show appF E sp tn off s X = (90, fset s (List.take (Int.toNat (if tn < (X.length : Int) then tn else (X.length : Int))) X) 0 E, decI sp, sp == 0) by unfold appF cutX; rw [if_neg h1, if_pos h2, if_neg h3, if_neg h4, if_neg h7, if_pos h5, if_pos h5]]
      by_cases h6 : List.take (Int.toNat (if tn < (X.length : Int) then tn else (X.length : Int))) X = []
      · rw [if_pos (decide_eq_true h6)] at h
        rw [h6]
        exact h.fz (fzT0 (M := [])) rfl
      · rw [if_neg (by simpa using h6)] at h
        exact h.fz fzT1 rfl
    · rw [if_neg h5] at h
      rw [show appF E sp tn off s X = (0, fset s X 0 E, decI sp, sp == 0) by unfold appF cutX; rw [if_neg h1, if_pos h2, if_neg h3, if_neg h4, if_neg h7, if_neg h5, if_neg h5]]
      by_cases h6 : X = []
      · rw [if_pos (decide_eq_true h6)] at h
        subst h6
        exact h.fz (fzT0 (M := [])) rfl
      · rw [if_neg (by simpa using h6)] at h
        exact h.fz fzT1 rfl
theorem syR {E : List FileT} {sp tn : Int} {off : Bool} {s : List UInt8} (hs : sp ≤ 9223372036854775807) :
    Runs lq 8 [.ptr 0 0 0, .p (.str s)] (dS E sp tn off) (.p (.int .i64 (syncF E sp tn off s).1), dS (syncF E sp tn off s).2.1 (syncF E sp tn off s).2.2.1 tn (syncF E sp tn off s).2.2.2) := by
  have h := dSync (E := E) (sp := sp) (tn := tn) (off := off) (s := s) (fun _ _ _ _ => gsR hs) (fun _ _ _ _ => gsR hs) (fun _ _ _ _ => dSy1)
  simp only [bs_len] at h
  by_cases h1 : off = true
  · rw [if_pos h1] at h
    rw [show syncF E sp tn off s = (90, E, sp, off) by unfold syncF; rw [if_pos h1]]
    exact h.lim rfl rfl
  rw [if_neg h1] at h
  by_cases h2 : nmB s = true
  case neg =>
    rw [if_neg h2] at h
    rw [show syncF E sp tn off s = (1, E, sp, off) by unfold syncF; rw [if_neg h1, if_neg h2]]
    exact h.lim rfl rfl
  rw [if_pos h2] at h
  by_cases h3 : fhas s E = true
  case neg =>
    rw [if_neg h3] at h
    rw [show syncF E sp tn off s = (4, E, sp, off) by unfold syncF; rw [if_neg h1, if_pos h2, if_neg h3]]
    exact h.lim rfl rfl
  rw [if_pos h3] at h
  by_cases h5 : (sp == 0) = true
  · rw [if_pos h5] at h
    rw [show syncF E sp tn off s = (90, E, decI sp, sp == 0) by unfold syncF; rw [if_neg h1, if_pos h2, if_pos h3, if_pos h5]]
    exact h.lim rfl rfl
  · rw [if_neg h5] at h
    rw [show syncF E sp tn off s = (0, fset s (fget s E).1 (((fget s E).1.length : Nat) : Int) E, decI sp, sp == 0) by unfold syncF; rw [if_neg h1, if_pos h2, if_pos h3, if_neg h5]]
    exact h.lim rfl rfl
theorem stR {E : List FileT} {sp tn n m : Int} {off : Bool} : Runs lq 10 [.ptr 0 0 0, .p (.int .i64 n), .p (.int .i64 m)] (dS E sp tn off) (.p (.int .i64 (stopF E sp tn off n m).1), dS E (stopF E sp tn off n m).2.1 (stopF E sp tn off n m).2.2 off) := by
  have h := dStop (E := E) (sp := sp) (tn := tn) (n := n) (m := m) (off := off)
  unfold stopF
  by_cases h1 : off = true
  · simp only [if_pos h1] at h ⊢; exact h.lim rfl rfl
  simp only [if_neg h1] at h ⊢
  by_cases h2 : decide (n < (-1)) = true
  · simp only [if_pos h2] at h ⊢; exact h.lim rfl rfl
  simp only [if_neg h2] at h ⊢
  by_cases h3 : decide (m < 0) = true
  · simp only [if_pos h3] at h ⊢; exact h.lim rfl rfl
  simp only [if_neg h3] at h ⊢
  exact h.lim rfl rfl
theorem crR {E : List FileT} {sp tn : Int} {off : Bool} {l : List KeepT} (hE : OKE E) : Runs lq 11 [.ptr 0 0 0, .p (.sl (rowsK l))] (dS E sp tn off) (if keepsB l = true then (.p (.int .i64 0), dS (crashE l E) (-1) 0 false) else (.p (.int .i64 1), dS E sp tn off)) :=
  Runs.lim (lp := lp) ⟨1, (sCrash_kvF hE : lp.summ 11 |>.get (by kernel_rfl) |> fun g => g [.ptr 0 0 0, .p (.sl (rowsK l))] (dS E sp tn off) = _)⟩ rfl rfl
theorem rdR {E : List FileT} {sp tn : Int} {s : List UInt8} (hE : OKE E) (hn : nmB s = true) (hf : fhas s E = true) : Runs lq 13 [.ptr 0 0 0, .p (.str s)] (dS E sp tn false) (.tup [.p (.sl (bs (fget s E).1)), .p (.int .i64 0)], dS E sp tn false) := by
  obtain ⟨g1, g2, g3⟩ := fget_oke hE s
  have h := dRead (E := E) (sp := sp) (tn := tn) (off := false) (s := s) (fun _ _ _ => clR (by omega))
  rw [if_neg (by simp), if_pos hn, if_pos hf] at h
  exact h.lim rfl rfl
theorem smR {k N M : Int} {n t b : List UInt8} {l : List KeepT} : Runs lq 9 [.agg [.p (.int .i64 k), .p (.str n), .p (.str t), .p (.sl (bs b)), .p (.int .i64 N), .p (.int .i64 M), .p (.sl (rowsK l))]] [] (.p (.bool (smallO b l)), []) := by
  have h := dSmall (ok := k) (oN := N) (oM := M) (on := n) (ot := t) (ob := b) (oks := l)
  simp only [bs_len, rowsK_len] at h
  have e2 : decide (((l.length : Nat) : Int) ≤ 50) = decide (l.length ≤ 50) := by rw [decide_eq_decide]; omega
  by_cases hb : b.length ≤ 2000
  · rw [if_pos (by simp; omega), e2] at h
    rw [show smallO b l = decide (l.length ≤ 50) by simp [smallO, hb]]
    exact h.lim rfl rfl
  · rw [if_neg (by simp; omega)] at h
    rw [show smallO b l = false by simp [smallO, hb]]
    exact h.lim rfl rfl
theorem keepsLoop {l : List KeepT} (hl : l.length ≤ 1000000000) : ∀ (k i : Nat), l.length - i = k → i ≤ l.length →
    (keepsB (l.drop i) = true → LoopN lp 0 (loopNo lf12 0) (tl 0 17 [(0, (.p (.sl (rowsK l)))), (3, (.p (.int .i64 (i : Int))))]) [] ((.exit 0), (tl 0 17 []), [])) ∧
    (keepsB (l.drop i) = false → LoopN lp 0 (loopNo lf12 0) (tl 0 17 [(0, (.p (.sl (rowsK l)))), (3, (.p (.int .i64 (i : Int))))]) [] (.ret, (tl 0 17 [(2, .p (.bool false))]), [])) := by
  intro k
  induction k with
  | zero =>
    intro i hk hi
    obtain rfl : i = l.length := by omega
    refine ⟨fun _ => dKeepsR_n (by rw [rowsK_len]; simp), fun h => ?_⟩
    rw [List.drop_length] at h; cases h
  | succ k ih =>
    intro i hk hi
    have hlt : i < l.length := by omega
    obtain ⟨⟨kn, kN⟩, hx⟩ : ∃ x, l[i]? = some x := ⟨l[i], by simp [hlt]⟩
    have hd := drop_get hx
    have hc : (decide ((i : Int) < ((List.length (rowsK l) : Nat) : Int))) = true := by rw [rowsK_len]; simp; omega
    obtain ⟨a1, a2⟩ := ih (i + 1) (by omega) (by omega)
    have hkb : keepsB (l.drop i) = (nmB kn && keepsB (l.drop (i + 1))) := by rw [hd]; rfl
    rw [hkb]
    cases hb : nmB kn
    · refine ⟨(fun h => by cases h), fun _ => dKeepsR_yn kN kn hc hx hb⟩
    · refine ⟨fun h => dKeepsR_yy kN kn hc hx hb ?_, fun h => dKeepsR_yy kN kn hc hx hb ?_⟩
      · rw [nx (by omega)]; exact a1 h
      · rw [nx (by omega)]; exact a2 h
theorem kpR {l : List KeepT} (hl : l.length ≤ 1000000000) : Runs lq 12 [.p (.sl (rowsK l))] [] (.p (.bool (keepsB l)), []) := by
  obtain ⟨a1, a2⟩ := keepsLoop hl l.length 0 rfl (Nat.zero_le _)
  have h := dKeeps (l := l) a1 a2
  cases hb : keepsB l
  · rw [if_neg (by simp [hb])] at h; exact h.lim rfl rfl
  · rw [if_pos hb] at h; exact h.lim rfl rfl
theorem nwR : Runs lq 5 [] [] (.ptr 0 0 0, dS [] (-1) 0 false) := Runs.lim (dNew) rfl rfl
theorem lvR : Runs lq 6 [] [] (.p (.bool true), []) := Runs.lim ⟨400, by kernel_rfl⟩ rfl rfl
end Go.Proofs.Ytgdbbmckmphnhaa

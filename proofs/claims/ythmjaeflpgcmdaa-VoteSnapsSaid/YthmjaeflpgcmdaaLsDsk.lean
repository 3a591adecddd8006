import Derived.Test.YthmjaeflpgcmdaaLsDskW
import Derived.Test.YthmjaeflpgcmdaaLsG7
import Derived.Test.YthmjaeflpgcmdaaLsG6
import Derived.KernelRfl
set_option linter.unusedVariables false
set_option linter.unusedSimpArgs false
set_option maxRecDepth 100000
namespace Go.Proofs.Ythmjaeflpgcmdaa
open Go Go.LS
noncomputable def lq : A2 := lpL lp [7, 12, 14, 15, 16, 17, 18, 22, 36, 46, 47, 51] [44]
theorem prq : PR Try.prog lq := prL pr [7, 12, 14, 15, 16, 17, 18, 22, 36, 46, 47, 51] [44] (by kernel_rfl)
theorem fzF {E E' : List Aq} {sp tn sp' tn' : Int} {off off' : Bool} {v : PV} : gc (dS E sp tn off).length [.p v] ((dS E' sp' tn' off').map frzMap) = some ([.p v], dS E' sp' tn' off') := by
 show gc 2 _ [frzMap (.row _), frzMap (.map (kvF E'))] = _
 rw [S3]; exact Q9
theorem Ze {E E' : List Aq} {sp tn sp' tn' : Int} {off off' : Bool} {v : PV} {s M : List UInt8} {u : Int} : gc (dS E sp tn off).length [.p v] ([LObj.row [[.mp 1, .p (.int .i64 sp'), .p (.int .i64 tn'), .p (.bool off')]], .map (kvT s (.tight (bs M)) u E')].map frzMap) = some ([.p v], dS (Bg s M u E') sp' tn' off') := by
 show gc 2 _ [frzMap (.row _), frzMap (.map (kvT s (.tight (bs M)) u E'))] = _
 rw [Mw s rfl]; exact Q9
theorem Zf {E E' : List Aq} {sp tn sp' tn' : Int} {off off' : Bool} {v : PV} {s M : List UInt8} {u : Int} {t n k m : Nat} : gc (dS E sp tn off).length [.p v] ([LObj.row [[.mp 1, .p (.int .i64 sp'), .p (.int .i64 tn'), .p (.bool off')]], .map (kvT s (.sl (bs M) t n) u E'), .spare k m].map frzMap) = some ([.p v], dS (Bg s M u E') sp' tn' off') := by
 show gc 2 _ [frzMap (.row _), frzMap (.map (kvT s (.sl (bs M) t n) u E')), frzMap (.spare k m)] = _
 rw [Mw s rfl]; exact W5
theorem gsR {E : List Aq} {sp tn : Int} {off : Bool} (h : sp ≤ 9223372036854775807) : Runs lp 66 [(.ptr 0 0 0)] (dS E sp tn off) ((.p (.bool (sp == 0))), dS E (Ao sp) tn (sp == 0)) := by
 have h1 := dGoes (E := E) (sp := sp) (tn := tn) (off := off)
 unfold Ao
 by_cases hc : sp > 0
 ·rw [if_pos (decide_eq_true hc), A1 (by omega) (by omega)] at h1
  rw [if_pos hc]
  exact h1
 ·rw [if_neg (by simpa using hc)] at h1
  rw [if_neg hc]
  exact h1
theorem clR {M : List UInt8} (h : M.length ≤ 200000000000000) : Runs lp 36 [.p (.sl (bs M))] [] (.p (.sl (bs M)), []) := by
 by_cases hm : M = []
 ·subst hm; exact ⟨40, by kernel_rfl⟩
 ·have h1 := dClone (M := M) hm (by simpa using h)
  rw [if_neg (by simpa using hm)] at h1
  simpa using h1
theorem appR {E : List Aq} {sp tn : Int} {off : Bool} {s X : List UInt8} (hE : OKE E) (hs : sp ≤ 9223372036854775807) (ht : 0 ≤ tn) (hX : X.length ≤ 10000000000) :
  Runs lq 44 [.ptr 0 0 0, .p (.str s), .p (.sl (bs X))] (dS E sp tn off) (.p (.int .i64 (Bq E sp tn off s X).1), dS (Bq E sp tn off s X).2.1 (Bq E sp tn off s X).2.2.1 tn (Bq E sp tn off s X).2.2.2) := by
 obtain ⟨g1, g2, g3⟩ := Hb hE s
 have hw : IntKind.wrap .i64 (1048576 - ((List.length (bs ((Ae s E).1)) : Nat) : Int)) = 1048576 - ((Ae s E).1.length : Int) := by rw [A9]; exact A1 (by omega) (by omega)
 have hmin : 0 ≤ (if tn < ((List.length (bs X) : Nat) : Int) then tn else ((List.length (bs X) : Nat) : Int)) := by split <;> omega
 have hmin2 : (if tn < ((List.length (bs X) : Nat) : Int) then tn else ((List.length (bs X) : Nat) : Int)) ≤ (X.length : Int) := by rw [A9]; split <;> omega
 have htk : (List.take (Int.toNat (if tn < ((List.length (bs X) : Nat) : Int) then tn else ((List.length (bs X) : Nat) : Int))) X).length ≤ X.length := by rw [List.length_take]; omega
 have h := dApp (E := E) (sp := sp) (tn := tn) (off := off) (s := s) (M := []) (X := X) (fun _ _ _ _ => gsR hs) (fun _ _ _ _ _ => hmin) (fun _ _ _ _ _ => hmin2) (fun _ _ _ _ _ _ => by omega) (fun _ _ _ _ _ _ => by omega)
  (fun _ _ _ _ _ => gsR hs) (fun _ _ _ _ _ _ => hmin) (fun _ _ _ _ _ _ => hmin2) (fun _ _ _ _ _ _ => by simp only [List.length_nil]; omega) (fun _ _ _ _ _ _ => by simp only [List.length_nil]; omega)
 rw [hw] at h
 simp only [A9] at h
 by_cases h1 : off = true
 ·rw [if_pos h1] at h
  rw [show Bq E sp tn off s X = (90, E, sp, off) by unfold Bq; rw [if_pos h1]]
  exact h.fz fzF rfl
 rw [if_neg h1] at h
 by_cases h2 : nmB s = true
 case neg =>
  rw [if_neg h2] at h
  rw [show Bq E sp tn off s X = (1, E, sp, off) by unfold Bq; rw [if_neg h1, if_neg h2]]
  exact h.fz fzF rfl
 rw [if_pos h2] at h
 by_cases h3 : Bo s E = true
 ·rw [if_pos h3] at h
  by_cases h4 : (X.length : Int) > 1048576 - ((Ae s E).1.length : Int)
  ·rw [if_pos (decide_eq_true h4)] at h
   rw [show Bq E sp tn off s X = (2, E, sp, off) by unfold Bq; rw [if_neg h1, if_pos h2, if_pos h3, if_pos h4]]
   exact h.fz fzF rfl
  rw [if_neg (by simpa using h4)] at h
  by_cases h5 : (sp == 0) = true
  ·rw [if_pos h5] at h
   rw [show Bq E sp tn off s X = (90, Bg s ((Ae s E).1 ++ List.take (Int.toNat (if tn < (X.length : Int) then tn else (X.length : Int))) X) (Ae s E).2 E, Ao sp, sp == 0) by unfold Bq Pt; rw [if_neg h1, if_pos h2, if_pos h3, if_neg h4, if_pos h5, if_pos h5]]
   by_cases h6 : List.take (Int.toNat (if tn < (X.length : Int) then tn else (X.length : Int))) X = []
   ·rw [if_pos (decide_eq_true h6)] at h
    rw [h6, List.append_nil]
    exact h.fz Ze rfl
   ·rw [if_neg (by simpa using h6)] at h
    exact h.fz Zf rfl
  ·rw [if_neg h5] at h
   rw [show Bq E sp tn off s X = (0, Bg s ((Ae s E).1 ++ X) (Ae s E).2 E, Ao sp, sp == 0) by unfold Bq Pt; rw [if_neg h1, if_pos h2, if_pos h3, if_neg h4, if_neg h5, if_neg h5]]
   by_cases h6 : X = []
   ·rw [if_pos (decide_eq_true h6)] at h
    subst h6
    rw [List.append_nil]
    exact h.fz Ze rfl
   ·rw [if_neg (by simpa using h6)] at h
    exact h.fz Zf rfl
 ·rw [if_neg h3] at h
  by_cases h4 : (X.length : Int) > 1048576
  ·rw [if_pos (decide_eq_true h4)] at h
   rw [show Bq E sp tn off s X = (2, E, sp, off) by unfold Bq; rw [if_neg h1, if_pos h2, if_neg h3, if_pos h4]]
   exact h.fz fzF rfl
  rw [if_neg (by simpa using h4)] at h
  by_cases h7 : (((E.length : Nat) : Int) == 256) = true
  ·rw [if_pos h7] at h
   rw [show Bq E sp tn off s X = (2, E, sp, off) by unfold Bq; rw [if_neg h1, if_pos h2, if_neg h3, if_neg h4, if_pos h7]]
   exact h.fz fzF rfl
  rw [if_neg h7] at h
  by_cases h5 : (sp == 0) = true
  ·rw [if_pos h5] at h
   rw [show Bq E sp tn off s X = (90, Bg s (List.take (Int.toNat (if tn < (X.length : Int) then tn else (X.length : Int))) X) 0 E, Ao sp, sp == 0) by unfold Bq Pt; rw [if_neg h1, if_pos h2, if_neg h3, if_neg h4, if_neg h7, if_pos h5, if_pos h5]]
   by_cases h6 : List.take (Int.toNat (if tn < (X.length : Int) then tn else (X.length : Int))) X = []
   ·rw [if_pos (decide_eq_true h6)] at h
    rw [h6]
    exact h.fz (Ze (M := [])) rfl
   ·rw [if_neg (by simpa using h6)] at h
    exact h.fz Zf rfl
  ·rw [if_neg h5] at h
   rw [show Bq E sp tn off s X = (0, Bg s X 0 E, Ao sp, sp == 0) by unfold Bq Pt; rw [if_neg h1, if_pos h2, if_neg h3, if_neg h4, if_neg h7, if_neg h5, if_neg h5]]
   by_cases h6 : X = []
   ·rw [if_pos (decide_eq_true h6)] at h
    subst h6
    exact h.fz (Ze (M := [])) rfl
   ·rw [if_neg (by simpa using h6)] at h
    exact h.fz Zf rfl
theorem syR {E : List Aq} {sp tn : Int} {off : Bool} {s : List UInt8} (hs : sp ≤ 9223372036854775807) :
  Runs lq 46 [.ptr 0 0 0, .p (.str s)] (dS E sp tn off) (.p (.int .i64 (B4 E sp tn off s).1), dS (B4 E sp tn off s).2.1 (B4 E sp tn off s).2.2.1 tn (B4 E sp tn off s).2.2.2) := by
 have h := dSync (E := E) (sp := sp) (tn := tn) (off := off) (s := s) (fun _ _ _ _ => gsR hs) (fun _ _ _ _ => gsR hs) (fun _ _ _ _ => dSy1)
 simp only [A9] at h
 by_cases h1 : off = true
 ·rw [if_pos h1] at h
  rw [show B4 E sp tn off s = (90, E, sp, off) by unfold B4; rw [if_pos h1]]
  exact h.lim rfl rfl
 rw [if_neg h1] at h
 by_cases h2 : nmB s = true
 case neg =>
  rw [if_neg h2] at h
  rw [show B4 E sp tn off s = (1, E, sp, off) by unfold B4; rw [if_neg h1, if_neg h2]]
  exact h.lim rfl rfl
 rw [if_pos h2] at h
 by_cases h3 : Bo s E = true
 case neg =>
  rw [if_neg h3] at h
  rw [show B4 E sp tn off s = (4, E, sp, off) by unfold B4; rw [if_neg h1, if_pos h2, if_neg h3]]
  exact h.lim rfl rfl
 rw [if_pos h3] at h
 by_cases h5 : (sp == 0) = true
 ·rw [if_pos h5] at h
  rw [show B4 E sp tn off s = (90, E, Ao sp, sp == 0) by unfold B4; rw [if_neg h1, if_pos h2, if_pos h3, if_pos h5]]
  exact h.lim rfl rfl
 ·rw [if_neg h5] at h
  rw [show B4 E sp tn off s = (0, Bg s (Ae s E).1 (((Ae s E).1.length : Nat) : Int) E, Ao sp, sp == 0) by unfold B4; rw [if_neg h1, if_pos h2, if_pos h3, if_neg h5]]
  exact h.lim rfl rfl
theorem stR {E : List Aq} {sp tn n m : Int} {off : Bool} : Runs lq 15 [.ptr 0 0 0, .p (.int .i64 n), .p (.int .i64 m)] (dS E sp tn off) (.p (.int .i64 (K0 E sp tn off n m).1), dS E (K0 E sp tn off n m).2.1 (K0 E sp tn off n m).2.2 off) := by
 have h := dStop (E := E) (sp := sp) (tn := tn) (n := n) (m := m) (off := off)
 unfold K0
 by_cases h1 : off = true
 ·simp only [if_pos h1] at h ⊢; exact h.lim rfl rfl
 simp only [if_neg h1] at h ⊢
 by_cases h2 : decide (n < (-1)) = true
 ·simp only [if_pos h2] at h ⊢; exact h.lim rfl rfl
 simp only [if_neg h2] at h ⊢
 by_cases h3 : decide (m < 0) = true
 ·simp only [if_pos h3] at h ⊢; exact h.lim rfl rfl
 simp only [if_neg h3] at h ⊢
 exact h.lim rfl rfl
theorem crR {E : List Aq} {sp tn : Int} {off : Bool} {l : List B1} (hE : OKE E) : Runs lq 16 [.ptr 0 0 0, .p (.sl (A4 l))] (dS E sp tn off) (if Bv l = true then (.p (.int .i64 0), dS (A5 l E) (-1) 0 false) else (.p (.int .i64 1), dS E sp tn off)) :=
 Runs.lim (lp := lp) ⟨1, (S8 hE : lp.summ 16 |>.get (by kernel_rfl) |> fun g => g [.ptr 0 0 0, .p (.sl (A4 l))] (dS E sp tn off) = _)⟩ rfl rfl
theorem rdR {E : List Aq} {sp tn : Int} {s : List UInt8} (hE : OKE E) (hn : nmB s = true) (hf : Bo s E = true) : Runs lq 17 [.ptr 0 0 0, .p (.str s)] (dS E sp tn false) (.tup [.p (.sl (bs (Ae s E).1)), .p (.int .i64 0)], dS E sp tn false) := by
 obtain ⟨g1, g2, g3⟩ := Hb hE s
 have h := dRead (E := E) (sp := sp) (tn := tn) (off := false) (s := s) (fun _ _ _ => clR (by omega))
 rw [if_neg (by simp), if_pos hn, if_pos hf] at h
 exact h.lim rfl rfl
theorem U8 {l : List B1} (hl : l.length ≤ 1000000000) : ∀ (k i : Nat), l.length - i = k → i ≤ l.length →
  (Bv (l.drop i) = true → LoopN lp 0 (Am Mk 0) (tl 0 17 [(0, (.p (.sl (A4 l)))), (3, (.p (.int .i64 (i : Int))))]) [] ((.exit 0), (tl 0 17 []), [])) ∧
  (Bv (l.drop i) = false → LoopN lp 0 (Am Mk 0) (tl 0 17 [(0, (.p (.sl (A4 l)))), (3, (.p (.int .i64 (i : Int))))]) [] (.ret, (tl 0 17 [(2, .p (.bool false))]), [])) := by
 intro k
 induction k with
 | zero =>
  intro i hk hi
  obtain rfl : i = l.length := by omega
  refine ⟨fun _ => U6 (by rw [Hk]; simp), fun h => ?_⟩
  rw [List.drop_length] at h; cases h
 | succ k ih =>
  intro i hk hi
  have hlt : i < l.length := by omega
  obtain ⟨⟨kn, kN⟩, hx⟩ : ∃ x, l[i]? = some x := ⟨l[i], by simp [hlt]⟩
  have hd := W8 hx
  have hc : (decide ((i : Int) < ((List.length (A4 l) : Nat) : Int))) = true := by rw [Hk]; simp; omega
  obtain ⟨a1, a2⟩ := ih (i + 1) (by omega) (by omega)
  have hkb : Bv (l.drop i) = (nmB kn && Bv (l.drop (i + 1))) := by rw [hd]; rfl
  rw [hkb]
  cases hb : nmB kn
  ·refine ⟨(fun h => by cases h), fun _ => S6 kN kn hc hx hb⟩
  ·refine ⟨fun h => Mx kN kn hc hx hb ?_, fun h => Mx kN kn hc hx hb ?_⟩
   ·rw [nx (by omega)]; exact a1 h
   ·rw [nx (by omega)]; exact a2 h
theorem kpR {l : List B1} (hl : l.length ≤ 1000000000) : Runs lq 14 [.p (.sl (A4 l))] [] (.p (.bool (Bv l)), []) := by
 obtain ⟨a1, a2⟩ := U8 hl l.length 0 rfl (Nat.zero_le _)
 have h := dKeeps (l := l) a1 a2
 cases hb : Bv l
 ·rw [if_neg (by simp [hb])] at h; exact h.lim rfl rfl
 ·rw [if_pos hb] at h; exact h.lim rfl rfl
theorem rmR {E : List Aq} {sp tn : Int} {off : Bool} {s : List UInt8} (hs : sp ≤ 9223372036854775807) :
  Runs lq 47 [.ptr 0 0 0, .p (.str s)] (dS E sp tn off) (.p (.int .i64 (Er E sp tn off s).1), dS (Er E sp tn off s).2.1 (Er E sp tn off s).2.2.1 tn (Er E sp tn off s).2.2.2) := by
 have h := Zc (E := E) (sp := sp) (tn := tn) (off := off) (s := s) (fun _ _ _ _ => gsR hs) (fun _ _ _ _ => gsR hs) (fun _ _ _ _ => dRm1)
 by_cases h1 : off = true
 ·rw [if_pos h1] at h
  rw [show Er E sp tn off s = (90, E, sp, off) by unfold Er; rw [if_pos h1]]
  exact h.lim rfl rfl
 rw [if_neg h1] at h
 by_cases h2 : nmB s = true
 case neg =>
  rw [if_neg h2] at h
  rw [show Er E sp tn off s = (1, E, sp, off) by unfold Er; rw [if_neg h1, if_neg h2]]
  exact h.lim rfl rfl
 rw [if_pos h2] at h
 by_cases h3 : Bo s E = true
 case neg =>
  rw [if_neg h3] at h
  rw [show Er E sp tn off s = (4, E, sp, off) by unfold Er; rw [if_neg h1, if_pos h2, if_neg h3]]
  exact h.lim rfl rfl
 rw [if_pos h3] at h
 by_cases h5 : (sp == 0) = true
 ·rw [if_pos h5] at h
  rw [show Er E sp tn off s = (90, E, Ao sp, sp == 0) by unfold Er; rw [if_neg h1, if_pos h2, if_pos h3, if_pos h5]]
  exact h.lim rfl rfl
 ·rw [if_neg h5] at h
  rw [show Er E sp tn off s = (0, Bt s E, Ao sp, sp == 0) by unfold Er; rw [if_neg h1, if_pos h2, if_pos h3, if_neg h5]]
  exact h.lim rfl rfl
theorem rnR {E : List Aq} {sp tn : Int} {off : Bool} {s zz : List UInt8} (hs : sp ≤ 9223372036854775807) :
  Runs lq 51 [.ptr 0 0 0, .p (.str s), .p (.str zz)] (dS E sp tn off) (.p (.int .i64 (Dm E sp tn off s zz).1), dS (Dm E sp tn off s zz).2.1 (Dm E sp tn off s zz).2.2.1 tn (Dm E sp tn off s zz).2.2.2) := by
 have h := Zd (E := E) (sp := sp) (tn := tn) (off := off) (s := s) (zz := zz) (fun _ _ _ _ _ _ => gsR hs) (fun _ _ _ _ _ _ => gsR hs) (fun _ _ _ _ _ _ => dRn1)
 by_cases h1 : off = true
 ·rw [if_pos h1] at h
  rw [show Dm E sp tn off s zz = (90, E, sp, off) by unfold Dm; rw [if_pos h1]]
  exact h.lim rfl rfl
 rw [if_neg h1] at h
 by_cases h2 : nmB s = true
 case neg =>
  rw [if_neg h2] at h
  rw [show Dm E sp tn off s zz = (1, E, sp, off) by unfold Dm; rw [if_neg h1, if_neg h2]]
  exact h.lim rfl rfl
 rw [if_pos h2] at h
 by_cases h4 : nmB zz = true
 case neg =>
  rw [if_neg h4] at h
  rw [show Dm E sp tn off s zz = (1, E, sp, off) by unfold Dm; rw [if_neg h1, if_pos h2, if_neg h4]]
  exact h.lim rfl rfl
 rw [if_pos h4] at h
 by_cases h3 : Bo s E = true
 case neg =>
  rw [if_neg h3] at h
  rw [show Dm E sp tn off s zz = (4, E, sp, off) by unfold Dm; rw [if_neg h1, if_pos h2, if_pos h4, if_neg h3]]
  exact h.lim rfl rfl
 rw [if_pos h3] at h
 by_cases h6 : (s == zz) = true
 ·rw [if_pos h6] at h
  rw [show Dm E sp tn off s zz = (1, E, sp, off) by unfold Dm; rw [if_neg h1, if_pos h2, if_pos h4, if_pos h3, if_pos h6]]
  exact h.lim rfl rfl
 rw [if_neg h6] at h
 by_cases h5 : (sp == 0) = true
 ·rw [if_pos h5] at h
  rw [show Dm E sp tn off s zz = (90, E, Ao sp, sp == 0) by unfold Dm; rw [if_neg h1, if_pos h2, if_pos h4, if_pos h3, if_neg h6, if_pos h5]]
  exact h.lim rfl rfl
 ·rw [if_neg h5] at h
  rw [show Dm E sp tn off s zz = (0, Bg zz (Ae s E).1 (Ae s E).2 (Bt s E), Ao sp, sp == 0) by unfold Dm; rw [if_neg h1, if_pos h2, if_pos h4, if_pos h3, if_neg h6, if_neg h5]]
  exact h.lim rfl rfl
theorem nwR : Runs lq 12 [] [] (.ptr 0 0 0, dS [] (-1) 0 false) := Runs.lim (dNew) rfl rfl
theorem lvR : Runs lq 7 [] [] (.p (.bool true), []) := Runs.lim ⟨400, by kernel_rfl⟩ rfl rfl
end Go.Proofs.Ythmjaeflpgcmdaa

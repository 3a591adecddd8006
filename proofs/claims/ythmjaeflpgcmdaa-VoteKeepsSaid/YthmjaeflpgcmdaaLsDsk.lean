import Derived.Test.YthmjaeflpgcmdaaLsDskW
import Derived.Test.YthmjaeflpgcmdaaLsG7
import Derived.Test.YthmjaeflpgcmdaaLsG6
import Derived.KernelRfl
set_option linter.unusedVariables false
set_option linter.unusedSimpArgs false
set_option maxRecDepth 100000
namespace Go.Proofs.Ythmjaeflpgcmdaa
open Go Go.LS
noncomputable def lq : A1 := lpL lp [7, 12, 14, 15, 16, 17, 18, 21, 22, 23, 46, 47, 51, 52, 56, 57, 73, 74] [44]
theorem prq : PR Try.prog lq := prL pr [7, 12, 14, 15, 16, 17, 18, 21, 22, 23, 46, 47, 51, 52, 56, 57, 73, 74] [44] (by kernel_rfl)
theorem fzF {E E' : List Ak} {sp tn sp' tn' : Int} {off off' : Bool} {v : PV} : gc (dS E sp tn off).length [.p v] ((dS E' sp' tn' off').map frzMap) = some ([.p v], dS E' sp' tn' off') := by
 show gc 2 _ [frzMap (.row _), frzMap (.map (kvF E'))] = _
 rw [Tr]; exact Rw
theorem fzT0 {E E' : List Ak} {sp tn sp' tn' : Int} {off off' : Bool} {v : PV} {s M : List UInt8} {u : Int} : gc (dS E sp tn off).length [.p v] ([LObj.row [[.mp 1, .p (.int .i64 sp'), .p (.int .i64 tn'), .p (.bool off')]], .map (kvT s (.tight (bs M)) u E')].map frzMap) = some ([.p v], dS (Ba s M u E') sp' tn' off') := by
 show gc 2 _ [frzMap (.row _), frzMap (.map (kvT s (.tight (bs M)) u E'))] = _
 rw [Nf s rfl]; exact Rw
theorem fzT1 {E E' : List Ak} {sp tn sp' tn' : Int} {off off' : Bool} {v : PV} {s M : List UInt8} {u : Int} {t n k m : Nat} : gc (dS E sp tn off).length [.p v] ([LObj.row [[.mp 1, .p (.int .i64 sp'), .p (.int .i64 tn'), .p (.bool off')]], .map (kvT s (.sl (bs M) t n) u E'), .spare k m].map frzMap) = some ([.p v], dS (Ba s M u E') sp' tn' off') := by
 show gc 2 _ [frzMap (.row _), frzMap (.map (kvT s (.sl (bs M) t n) u E')), frzMap (.spare k m)] = _
 rw [Nf s rfl]; exact Xw
theorem gsR {E : List Ak} {sp tn : Int} {off : Bool} (h : sp ≤ 9223372036854775807) : Runs lp 66 [(.ptr 0 0 0)] (dS E sp tn off) ((.p (.bool (sp == 0))), dS E (Ao sp) tn (sp == 0)) := by
 have h1 := dGoes (E := E) (sp := sp) (tn := tn) (off := off)
 unfold Ao
 by_cases hc : sp > 0
 ·rw [if_pos (decide_eq_true hc), Aw (by omega) (by omega)] at h1
  rw [if_pos hc]
  exact h1
 ·rw [if_neg (by simpa using hc)] at h1
  rw [if_neg hc]
  exact h1
theorem clR {M : List UInt8} (h : M.length ≤ 200000000000000) : Runs lp 36 [.p (.sl (bs M))] [] (.p (.sl (bs M)), []) := by
 by_cases hm : M = []
 ·subst hm; exact ⟨40, by kernel_rfl⟩
 ·have h1 := dClone (M := M) hm (by simpa using h)
  rw [if_neg (by simpa using hm)] at h1
  simpa using h1
theorem appR {E : List Ak} {sp tn : Int} {off : Bool} {s X : List UInt8} (hE : OKE E) (hs : sp ≤ 9223372036854775807) (ht : 0 ≤ tn) (hX : X.length ≤ 10000000000) :
  Runs lq 44 [.ptr 0 0 0, .p (.str s), .p (.sl (bs X))] (dS E sp tn off) (.p (.int .i64 (A0 E sp tn off s X).1), dS (A0 E sp tn off s X).2.1 (A0 E sp tn off s X).2.2.1 tn (A0 E sp tn off s X).2.2.2) := by
 obtain ⟨g1, g2, g3⟩ := Hj hE s
 have hw : IntKind.wrap .i64 (1048576 - ((List.length (bs ((Ad s E).1)) : Nat) : Int)) = 1048576 - ((Ad s E).1.length : Int) := by rw [A6]; exact Aw (by omega) (by omega)
 have hmin : 0 ≤ (if tn < ((List.length (bs X) : Nat) : Int) then tn else ((List.length (bs X) : Nat) : Int)) := by split <;> omega
 have hmin2 : (if tn < ((List.length (bs X) : Nat) : Int) then tn else ((List.length (bs X) : Nat) : Int)) ≤ (X.length : Int) := by rw [A6]; split <;> omega
 have htk : (List.take (Int.toNat (if tn < ((List.length (bs X) : Nat) : Int) then tn else ((List.length (bs X) : Nat) : Int))) X).length ≤ X.length := by rw [List.length_take]; omega
 have h := dApp (E := E) (sp := sp) (tn := tn) (off := off) (s := s) (M := []) (X := X) (fun _ _ _ _ => gsR hs) (fun _ _ _ _ _ => hmin) (fun _ _ _ _ _ => hmin2) (fun _ _ _ _ _ _ => by omega) (fun _ _ _ _ _ _ => by omega)
  (fun _ _ _ _ _ => gsR hs) (fun _ _ _ _ _ _ => hmin) (fun _ _ _ _ _ _ => hmin2) (fun _ _ _ _ _ _ => by simp only [List.length_nil]; omega) (fun _ _ _ _ _ _ => by simp only [List.length_nil]; omega)
 rw [hw] at h
 simp only [A6] at h
 by_cases h1 : off = true
 ·rw [if_pos h1] at h
  rw [show A0 E sp tn off s X = (90, E, sp, off) by unfold A0; rw [if_pos h1]]
  exact h.fz fzF rfl
 rw [if_neg h1] at h
 by_cases h2 : nmB s = true
 case neg =>
  rw [if_neg h2] at h
  rw [show A0 E sp tn off s X = (1, E, sp, off) by unfold A0; rw [if_neg h1, if_neg h2]]
  exact h.fz fzF rfl
 rw [if_pos h2] at h
 by_cases h3 : Bj s E = true
 ·rw [if_pos h3] at h
  by_cases h4 : (X.length : Int) > 1048576 - ((Ad s E).1.length : Int)
  ·rw [if_pos (decide_eq_true h4)] at h
   rw [show A0 E sp tn off s X = (2, E, sp, off) by unfold A0; rw [if_neg h1, if_pos h2, if_pos h3, if_pos h4]]
   exact h.fz fzF rfl
  rw [if_neg (by simpa using h4)] at h
  by_cases h5 : (sp == 0) = true
  ·rw [if_pos h5] at h
   rw [show A0 E sp tn off s X = (90, Ba s ((Ad s E).1 ++ List.take (Int.toNat (if tn < (X.length : Int) then tn else (X.length : Int))) X) (Ad s E).2 E, Ao sp, sp == 0) by unfold A0 Lr; rw [if_neg h1, if_pos h2, if_pos h3, if_neg h4, if_pos h5, if_pos h5]]
   by_cases h6 : List.take (Int.toNat (if tn < (X.length : Int) then tn else (X.length : Int))) X = []
   ·rw [if_pos (decide_eq_true h6)] at h
    rw [h6, List.append_nil]
    exact h.fz fzT0 rfl
   ·rw [if_neg (by simpa using h6)] at h
    exact h.fz fzT1 rfl
  ·rw [if_neg h5] at h
   rw [show A0 E sp tn off s X = (0, Ba s ((Ad s E).1 ++ X) (Ad s E).2 E, Ao sp, sp == 0) by unfold A0 Lr; rw [if_neg h1, if_pos h2, if_pos h3, if_neg h4, if_neg h5, if_neg h5]]
   by_cases h6 : X = []
   ·rw [if_pos (decide_eq_true h6)] at h
    subst h6
    rw [List.append_nil]
    exact h.fz fzT0 rfl
   ·rw [if_neg (by simpa using h6)] at h
    exact h.fz fzT1 rfl
 ·rw [if_neg h3] at h
  by_cases h4 : (X.length : Int) > 1048576
  ·rw [if_pos (decide_eq_true h4)] at h
   rw [show A0 E sp tn off s X = (2, E, sp, off) by unfold A0; rw [if_neg h1, if_pos h2, if_neg h3, if_pos h4]]
   exact h.fz fzF rfl
  rw [if_neg (by simpa using h4)] at h
  by_cases h7 : (((E.length : Nat) : Int) == 256) = true
  ·rw [if_pos h7] at h
   rw [show A0 E sp tn off s X = (2, E, sp, off) by unfold A0; rw [if_neg h1, if_pos h2, if_neg h3, if_neg h4, if_pos h7]]
   exact h.fz fzF rfl
  rw [if_neg h7] at h
  by_cases h5 : (sp == 0) = true
  ·rw [if_pos h5] at h
   rw [show A0 E sp tn off s X = (90, Ba s (List.take (Int.toNat (if tn < (X.length : Int) then tn else (X.length : Int))) X) 0 E, Ao sp, sp == 0) by unfold A0 Lr; rw [if_neg h1, if_pos h2, if_neg h3, if_neg h4, if_neg h7, if_pos h5, if_pos h5]]
   by_cases h6 : List.take (Int.toNat (if tn < (X.length : Int) then tn else (X.length : Int))) X = []
   ·rw [if_pos (decide_eq_true h6)] at h
    rw [h6]
    exact h.fz (fzT0 (M := [])) rfl
   ·rw [if_neg (by simpa using h6)] at h
    exact h.fz fzT1 rfl
  ·rw [if_neg h5] at h
   rw [show A0 E sp tn off s X = (0, Ba s X 0 E, Ao sp, sp == 0) by unfold A0 Lr; rw [if_neg h1, if_pos h2, if_neg h3, if_neg h4, if_neg h7, if_neg h5, if_neg h5]]
   by_cases h6 : X = []
   ·rw [if_pos (decide_eq_true h6)] at h
    subst h6
    exact h.fz (fzT0 (M := [])) rfl
   ·rw [if_neg (by simpa using h6)] at h
    exact h.fz fzT1 rfl
theorem syR {E : List Ak} {sp tn : Int} {off : Bool} {s : List UInt8} (hs : sp ≤ 9223372036854775807) :
  Runs lq 46 [.ptr 0 0 0, .p (.str s)] (dS E sp tn off) (.p (.int .i64 (Bo E sp tn off s).1), dS (Bo E sp tn off s).2.1 (Bo E sp tn off s).2.2.1 tn (Bo E sp tn off s).2.2.2) := by
 have h := dSync (E := E) (sp := sp) (tn := tn) (off := off) (s := s) (fun _ _ _ => gsR hs) (fun _ _ _ _ => dSy1)
 simp only [A6] at h
 by_cases h1 : off = true
 ·rw [if_pos h1] at h
  rw [show Bo E sp tn off s = (90, E, sp, off) by unfold Bo; rw [if_pos h1]]
  exact h.lim rfl rfl
 rw [if_neg h1] at h
 by_cases h2 : nmB s = true
 case neg =>
  rw [if_neg h2] at h
  rw [show Bo E sp tn off s = (1, E, sp, off) by unfold Bo; rw [if_neg h1, if_neg h2]]
  exact h.lim rfl rfl
 rw [if_pos h2] at h
 by_cases h3 : Bj s E = true
 case neg =>
  rw [if_neg h3] at h
  rw [show Bo E sp tn off s = (4, E, sp, off) by unfold Bo; rw [if_neg h1, if_pos h2, if_neg h3]]
  exact h.lim rfl rfl
 rw [if_pos h3] at h
 by_cases h5 : (sp == 0) = true
 ·rw [if_pos h5] at h
  rw [show Bo E sp tn off s = (90, E, Ao sp, sp == 0) by unfold Bo; rw [if_neg h1, if_pos h2, if_pos h3, if_pos h5]]
  exact h.lim rfl rfl
 ·rw [if_neg h5] at h
  rw [show Bo E sp tn off s = (0, Ba s (Ad s E).1 (((Ad s E).1.length : Nat) : Int) E, Ao sp, sp == 0) by unfold Bo; rw [if_neg h1, if_pos h2, if_pos h3, if_neg h5]]
  exact h.lim rfl rfl
theorem stR {E : List Ak} {sp tn n m : Int} {off : Bool} : Runs lq 15 [.ptr 0 0 0, .p (.int .i64 n), .p (.int .i64 m)] (dS E sp tn off) (.p (.int .i64 (Ld E sp tn off n m).1), dS E (Ld E sp tn off n m).2.1 (Ld E sp tn off n m).2.2 off) := by
 have h := dStop (E := E) (sp := sp) (tn := tn) (n := n) (m := m) (off := off)
 unfold Ld
 by_cases h1 : off = true
 ·simp only [if_pos h1] at h ⊢; exact h.lim rfl rfl
 simp only [if_neg h1] at h ⊢
 by_cases h2 : decide (n < (-1)) = true
 ·simp only [if_pos h2] at h ⊢; exact h.lim rfl rfl
 simp only [if_neg h2] at h ⊢
 by_cases h3 : decide (m < 0) = true
 ·simp only [if_pos h3] at h ⊢; exact h.lim rfl rfl
 simp only [if_neg h3] at h ⊢
 exact h.lim rfl rfl
theorem crR {E : List Ak} {sp tn : Int} {off : Bool} {l : List Bt} (hE : OKE E) : Runs lq 16 [.ptr 0 0 0, .p (.sl (A3 l))] (dS E sp tn off) (if Bx l = true then (.p (.int .i64 0), dS (C0 l E) (-1) 0 false) else (.p (.int .i64 1), dS E sp tn off)) :=
 Runs.lim (lp := lp) ⟨1, (Tx hE : lp.summ 16 |>.get (by kernel_rfl) |> fun g => g [.ptr 0 0 0, .p (.sl (A3 l))] (dS E sp tn off) = _)⟩ rfl rfl
theorem rdR {E : List Ak} {sp tn : Int} {s : List UInt8} (hE : OKE E) (hn : nmB s = true) (hf : Bj s E = true) : Runs lq 17 [.ptr 0 0 0, .p (.str s)] (dS E sp tn false) (.tup [.p (.sl (bs (Ad s E).1)), .p (.int .i64 0)], dS E sp tn false) := by
 obtain ⟨g1, g2, g3⟩ := Hj hE s
 have h := dRead (E := E) (sp := sp) (tn := tn) (off := false) (s := s) (fun _ _ _ => clR (by omega))
 rw [if_neg (by simp), if_pos hn, if_pos hf] at h
 exact h.lim rfl rfl
theorem Vw {l : List Bt} (hl : l.length ≤ 1000000000) : ∀ (k i : Nat), l.length - i = k → i ≤ l.length →
  (Bx (l.drop i) = true → LoopN lp 0 (Aj M1 0) (tl 0 17 [(0, (.p (.sl (A3 l)))), (3, (.p (.int .i64 (i : Int))))]) [] ((.exit 0), (tl 0 17 []), [])) ∧
  (Bx (l.drop i) = false → LoopN lp 0 (Aj M1 0) (tl 0 17 [(0, (.p (.sl (A3 l)))), (3, (.p (.int .i64 (i : Int))))]) [] (.ret, (tl 0 17 [(2, .p (.bool false))]), [])) := by
 intro k
 induction k with
 | zero =>
  intro i hk hi
  obtain rfl : i = l.length := by omega
  refine ⟨fun _ => Vu (by rw [Ht]; simp), fun h => ?_⟩
  rw [List.drop_length] at h; cases h
 | succ k ih =>
  intro i hk hi
  have hlt : i < l.length := by omega
  obtain ⟨⟨kn, kN⟩, hx⟩ : ∃ x, l[i]? = some x := ⟨l[i], by simp [hlt]⟩
  have hd := Ry hx
  have hc : (decide ((i : Int) < ((List.length (A3 l) : Nat) : Int))) = true := by rw [Ht]; simp; omega
  obtain ⟨a1, a2⟩ := ih (i + 1) (by omega) (by omega)
  have hkb : Bx (l.drop i) = (nmB kn && Bx (l.drop (i + 1))) := by rw [hd]; rfl
  rw [hkb]
  cases hb : nmB kn
  ·refine ⟨(fun h => by cases h), fun _ => Tv kN kn hc hx hb⟩
  ·refine ⟨fun h => Ng kN kn hc hx hb ?_, fun h => Ng kN kn hc hx hb ?_⟩
   ·rw [nx (by omega)]; exact a1 h
   ·rw [nx (by omega)]; exact a2 h
theorem kpR {l : List Bt} (hl : l.length ≤ 1000000000) : Runs lq 14 [.p (.sl (A3 l))] [] (.p (.bool (Bx l)), []) := by
 obtain ⟨a1, a2⟩ := Vw hl l.length 0 rfl (Nat.zero_le _)
 have h := dKeeps (l := l) a1 a2
 cases hb : Bx l
 ·rw [if_neg (by simp [hb])] at h; exact h.lim rfl rfl
 ·rw [if_pos hb] at h; exact h.lim rfl rfl
theorem rmR {E : List Ak} {sp tn : Int} {off : Bool} {s : List UInt8} (hs : sp ≤ 9223372036854775807) :
  Runs lq 47 [.ptr 0 0 0, .p (.str s)] (dS E sp tn off) (.p (.int .i64 (Ga E sp tn off s).1), dS (Ga E sp tn off s).2.1 (Ga E sp tn off s).2.2.1 tn (Ga E sp tn off s).2.2.2) := by
 have h := dRemove (E := E) (sp := sp) (tn := tn) (off := off) (s := s) (fun _ _ _ => gsR hs) (fun _ _ _ _ => dRm1)
 by_cases h1 : off = true
 ·rw [if_pos h1] at h
  rw [show Ga E sp tn off s = (90, E, sp, off) by unfold Ga; rw [if_pos h1]]
  exact h.lim rfl rfl
 rw [if_neg h1] at h
 by_cases h2 : nmB s = true
 case neg =>
  rw [if_neg h2] at h
  rw [show Ga E sp tn off s = (1, E, sp, off) by unfold Ga; rw [if_neg h1, if_neg h2]]
  exact h.lim rfl rfl
 rw [if_pos h2] at h
 by_cases h3 : Bj s E = true
 case neg =>
  rw [if_neg h3] at h
  rw [show Ga E sp tn off s = (4, E, sp, off) by unfold Ga; rw [if_neg h1, if_pos h2, if_neg h3]]
  exact h.lim rfl rfl
 rw [if_pos h3] at h
 by_cases h5 : (sp == 0) = true
 ·rw [if_pos h5] at h
  rw [show Ga E sp tn off s = (90, E, Ao sp, sp == 0) by unfold Ga; rw [if_neg h1, if_pos h2, if_pos h3, if_pos h5]]
  exact h.lim rfl rfl
 ·rw [if_neg h5] at h
  rw [show Ga E sp tn off s = (0, B2 s E, Ao sp, sp == 0) by unfold Ga; rw [if_neg h1, if_pos h2, if_pos h3, if_neg h5]]
  exact h.lim rfl rfl
theorem rnR {E : List Ak} {sp tn : Int} {off : Bool} {s zz : List UInt8} (hs : sp ≤ 9223372036854775807) :
  Runs lq 51 [.ptr 0 0 0, .p (.str s), .p (.str zz)] (dS E sp tn off) (.p (.int .i64 (Cz E sp tn off s zz).1), dS (Cz E sp tn off s zz).2.1 (Cz E sp tn off s zz).2.2.1 tn (Cz E sp tn off s zz).2.2.2) := by
 have h := dRename (E := E) (sp := sp) (tn := tn) (off := off) (s := s) (zz := zz) (fun _ _ _ _ _ => gsR hs) (fun _ _ _ _ _ _ => dRn1)
 by_cases h1 : off = true
 ·rw [if_pos h1] at h
  rw [show Cz E sp tn off s zz = (90, E, sp, off) by unfold Cz; rw [if_pos h1]]
  exact h.lim rfl rfl
 rw [if_neg h1] at h
 by_cases h2 : nmB s = true
 case neg =>
  rw [if_neg h2] at h
  rw [show Cz E sp tn off s zz = (1, E, sp, off) by unfold Cz; rw [if_neg h1, if_neg h2]]
  exact h.lim rfl rfl
 rw [if_pos h2] at h
 by_cases h4 : nmB zz = true
 case neg =>
  rw [if_neg h4] at h
  rw [show Cz E sp tn off s zz = (1, E, sp, off) by unfold Cz; rw [if_neg h1, if_pos h2, if_neg h4]]
  exact h.lim rfl rfl
 rw [if_pos h4] at h
 by_cases h3 : Bj s E = true
 case neg =>
  rw [if_neg h3] at h
  rw [show Cz E sp tn off s zz = (4, E, sp, off) by unfold Cz; rw [if_neg h1, if_pos h2, if_pos h4, if_neg h3]]
  exact h.lim rfl rfl
 rw [if_pos h3] at h
 by_cases h6 : (s == zz) = true
 ·rw [if_pos h6] at h
  rw [show Cz E sp tn off s zz = (1, E, sp, off) by unfold Cz; rw [if_neg h1, if_pos h2, if_pos h4, if_pos h3, if_pos h6]]
  exact h.lim rfl rfl
 rw [if_neg h6] at h
 by_cases h5 : (sp == 0) = true
 ·rw [if_pos h5] at h
  rw [show Cz E sp tn off s zz = (90, E, Ao sp, sp == 0) by unfold Cz; rw [if_neg h1, if_pos h2, if_pos h4, if_pos h3, if_neg h6, if_pos h5]]
  exact h.lim rfl rfl
 ·rw [if_neg h5] at h
  rw [show Cz E sp tn off s zz = (0, Ba zz (Ad s E).1 (Ad s E).2 (B2 s E), Ao sp, sp == 0) by unfold Cz; rw [if_neg h1, if_pos h2, if_pos h4, if_pos h3, if_neg h6, if_neg h5]]
  exact h.lim rfl rfl
theorem ctR {E : List Ak} {tn u : Int} {s M : List UInt8} {c : Nat} (hn : nmB s = true) (hf : Av s E = some (M, u)) (hc : c ≤ M.length) :
  Runs lq 52 [.ptr 0 0 0, .p (.str s), .p (.int .i64 (c : Int))] (dS E (-1) tn false) (.p (.int .i64 0), dS (Ba s (M.take c) (if (c : Int) < u then (c : Int) else u) E) (-1) tn false) := by
 have hf1 : Bj s E = true := by simp [Bj, hf]
 have hg : Ad s E = (M, u) := by simp [Ad, hf]
 have h := dCut (E := E) (sp := -1) (tn := tn) (off := false) (s := s) (c := c) (fun _ _ _ _ _ => gsR (by omega)) (fun _ _ _ _ _ _ => by rw [hg]; exact dCt1 (M := M) (by omega) (by omega))
 rw [if_neg (by simp), if_pos hn, if_pos hf1, hg, if_neg (by simp), if_neg (by show ¬ decide ((c : Int) > ((List.length (bs M) : Nat) : Int)) = true; rw [A6]; simp only [decide_eq_true_eq]; omega), if_neg (by simp)] at h
 exact h.lim rfl rfl
theorem nwR : Runs lq 12 [] [] (.ptr 0 0 0, dS [] (-1) 0 false) := Runs.lim (dNew) rfl rfl
theorem lvR : Runs lq 7 [] [] (.p (.bool true), []) := Runs.lim ⟨400, by kernel_rfl⟩ rfl rfl
end Go.Proofs.Ythmjaeflpgcmdaa

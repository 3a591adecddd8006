import Derived.Test.YthmjaeflpgcmdaaLsVkW
import Derived.Test.YthmjaeflpgcmdaaLsG7
import Derived.Test.YthmjaeflpgcmdaaLsG6
import Derived.KernelRfl
set_option linter.unusedVariables false
set_option linter.unusedSimpArgs false
set_option maxRecDepth 100000
namespace Go.Proofs.Ythmjaeflpgcmdaa
open Go Go.LS
abbrev Bs : List UInt8 := [118, 111, 116, 101]
abbrev Ed : List UInt8 := [118, 111, 116, 101, 46, 110, 101, 119]
def vb (x : Int × Int) : List UInt8 := Af x.1.toNat ++ Af (zz x.2)
def OkV (x : Int × Int) : Prop := 0 ≤ x.1 ∧ x.1 ≤ 1099511627776 ∧ -1 ≤ x.2 ∧ x.2 ≤ 63
def jv (L : List (Int × Int)) : List UInt8 := Bu (L.map vb)
def C8 (d : Int × Int) (L : List (Int × Int)) : Int × Int := L.foldl (fun _ x => x) d
def vS (te no vn : Int) (E : List Ak) (sp tn : Int) (off : Bool) : List LObj := [.row [[.ptr 1 0 0, .p (.int .i64 te), .p (.int .i64 no), .p (.int .i64 vn)]], .row [[.mp 2, .p (.int .i64 sp), .p (.int .i64 tn), .p (.bool off)]], .map (kvF E)]
theorem Ks (d : Int × Int) (L : List (Int × Int)) (x : Int × Int) : C8 d (L ++ [x]) = x := by simp [C8]
theorem Qo (L : List (Int × Int)) (x : Int × Int) : jv (L ++ [x]) = jv L ++ frame (vb x) := by simp [jv, Bu]
theorem Qp {x : Int × Int} (h : OkV x) : (vb x).length ≤ 20 := by
 obtain ⟨h0, h1, h2, h3⟩ := h
 have a := Fk x.1.toNat (by omega)
 have b := Fk (zz x.2) (Yj (by omega) (by omega))
 simp only [vb, List.length_append]; omega
theorem noteR {x : Int × Int} {te no vn sp tn : Int} {off : Bool} {E : List Ak} (hx : OkV x) :
  Runs lq 53 [.ptr 0 0 0, .p (.sl (bs (vb x)))] (vS te no vn E sp tn off) (.tup [], vS x.1 x.2 vn E sp tn off) := by
 obtain ⟨h0, h1, h2, h3⟩ := hx
 have e1 : Ab (vb x, false) 1099511627776 = (x.1, Af (zz x.2), false) := by
  have := Lf (n := x.1.toNat) (most := 1099511627776) (by omega) (by omega) (Af (zz x.2))
  rw [Int.toNat_of_nonneg h0] at this; exact this
 have e2 : B1 (Af (zz x.2), false) = (x.2, [], false) := by
  have := V7 (x := x.2) (by omega) (by omega) []
  rwa [List.append_nil] at this
 have e3 : B1 (Ab (vb x, false) 1099511627776).2 = (x.2, [], false) := by rw [e1]; exact e2
 have w1 : Runs lq 56 [.p (.sl (bs (vb x)))] [] (.ptr 0 0 0, [.row [[.p (.sl (bs (vb x))), .p (.bool false)]]]) := (Ju).lim rfl rfl
 have w2 := (Nm (vb x, false) 1099511627776).lim (lims := [7, 12, 14, 15, 16, 17, 18, 21, 22, 23, 46, 47, 51, 52, 56, 57, 73, 74]) (fz := [44]) rfl rfl
 have w3 := (vInt (Ab (vb x, false) 1099511627776).2).lim (lims := [7, 12, 14, 15, 16, 17, 18, 21, 22, 23, 46, 47, 51, 52, 56, 57, 73, 74]) (fz := [44]) rfl rfl
 have w4 := (vDone (B1 (Ab (vb x, false) 1099511627776).2).2).lim (lims := [7, 12, 14, 15, 16, 17, 18, 21, 22, 23, 46, 47, 51, 52, 56, 57, 73, 74]) (fz := [44]) rfl rfl
 have h := vNote (te := te) (no := no) (vn := vn) (E := E) (sp := sp) (tn := tn) (off := off) (b := vb x) w1 w2 w3 w4
 have c1 : (Le (B1 (Ab (vb x, false) 1099511627776).2).2 == 0) = true := by rw [e3]; rfl
 have c2 : decide ((B1 (Ab (vb x, false) 1099511627776).2).1 ≥ -1) = true := by rw [e3]; simp; omega
 have c3 : decide ((B1 (Ab (vb x, false) 1099511627776).2).1 ≤ 63) = true := by rw [e3]; simp; omega
 have e4 : (B1 (Ab (vb x, false) 1099511627776).2).1 = x.2 := by rw [e3]
 rw [if_pos c1, if_pos c2, if_pos c3, e4, e1] at h
 exact h
theorem Ze {L : List (Int × Int)} : (ef (L.map vb)).length = L.length := by simp [ef]
theorem Zf {L : List (Int × Int)} {E : List Ak} {vn sp tn : Int} {off : Bool} (hl : L.length ≤ 100000000000000) (hL : ∀ x ∈ L, OkV x) : ∀ (k i : Nat) (te no : Int), L.length - i = k → i ≤ L.length →
  LoopN lq 3 (Aj Px 0) (tl 0 54 [(0, (.ptr 0 0 0)), (4, .p (.int .i64 0)), (43, (.p (.sl (ef (L.map vb))))), (44, (.p (.int .i64 ((List.length (ef (L.map vb)) : Nat) : Int)))), (45, (.p (.int .i64 (i : Int))))]) (vS te no vn E sp tn off) ((.exit 0), (tl 0 54 [(4, .p (.int .i64 0))]), vS (C8 (te, no) (L.drop i)).1 (C8 (te, no) (L.drop i)).2 vn E sp tn off) := by
 intro k
 induction k with
 | zero =>
  intro i te no hk hi
  obtain rfl : i = L.length := by omega
  rw [List.drop_length]
  exact loadR_n (by rw [Ze]; simp)
 | succ k ih =>
  intro i te no hk hi
  have hlt : i < L.length := by omega
  obtain ⟨x, hx⟩ : ∃ x, L[i]? = some x := ⟨L[i], by simp [hlt]⟩
  have hr := ih (i + 1) x.1 x.2 (by omega) (by omega)
  rw [← nx (by omega)] at hr
  have e : C8 (te, no) (L.drop i) = C8 (x.1, x.2) (L.drop (i + 1)) := by rw [Ry hx]; rfl
  rw [e]
  exact loadR_y (by rw [Ze]; simp; omega) (by simp [hx]) (noteR (hL x (List.mem_of_getElem? hx))) hr
theorem ldF {L : List (Int × Int)} {E : List Ak} {te no vn tn u : Int} {X : List UInt8} {c : Nat} (hE : OKE E) (hl : L.length ≤ 100000000000000) (hL : ∀ x ∈ L, OkV x) (hf : Av Bs E = some (X, u)) (hs : Iq X = (L.map vb, c)) (hc : c ≤ X.length) :
  ∃ E', Runs lq 31 [.ptr 0 0 0] (vS te no vn E (-1) tn false) (.p (.int .i64 0), vS (C8 (te, no) L).1 (C8 (te, no) L).2 ((List.length (ef (L.map vb)) : Nat) : Int) E' (-1) tn false) := by
 obtain ⟨o1, o2, o3⟩ := hE.1 _ (Fp hf)
 simp only at o1 o2 o3
 have hg : Ad Bs E = (X, u) := by simp [Ad, hf]
 have R := rdR (sp := -1) (tn := tn) hE (s := Bs) (by rfl) (Dv hf)
 rw [hg] at R
 have S : Runs lq 18 [.p (.sl (bs X))] [] (.tup [.p (.sl (ef (Iq X).1)), .p (.int .i64 ((Iq X).2 : Int))], []) := (vScan (by omega)).lim rfl rfl
 rw [hs] at S
 have C := ctR (E := E) (tn := tn) (s := Bs) (c := c) rfl hf hc
 have LP := fun (E : List Ak) => Zf (L := L) (E := E) (vn := ((List.length (ef (L.map vb)) : Nat) : Int)) (sp := -1) (tn := tn) (off := false) hl hL L.length 0 te no rfl (Nat.zero_le _)
 have h := Zb (fd := true) (vn := vn) (fun _ => R) (fun _ => S) (fun _ _ => C) (fun _ _ => LP _) (fun _ _ => LP _) (fun h => by cases h)
 rw [if_pos rfl] at h
 split at h
 ·exact ⟨_, h⟩
 ·exact ⟨_, h⟩
theorem ldE {E : List Ak} {te no vn tn : Int} (hf : Av Bs E = none) :
  Runs lq 31 [.ptr 0 0 0] (vS te no vn E (-1) tn false) (.p (.int .i64 0), vS te no vn E (-1) tn false) := by
 have hh := Kq hf
 have R : Runs lq 17 [.ptr 0 0 0, .p (.str Bs)] (dS E (-1) tn false) (.tup [.p (.sl []), .p (.int .i64 4)], dS E (-1) tn false) := by
  have h := dRead (E := E) (sp := -1) (tn := tn) (off := false) (s := Bs) (fun _ _ h' => by rw [hh] at h'; cases h')
  rw [if_neg (by simp), if_pos (by rfl), if_neg (by simp [hh])] at h
  exact h.lim rfl rfl
 have h := Zb (fd := false) (te := te) (no := no) (vn := vn) (E1 := []) (sp1 := 0) (off1 := false) (tm := 0) (nd := 0) (X := []) (l := []) (c := 0) (fun h => by cases h) (fun h => by cases h) (fun h => by cases h) (fun h => by cases h) (fun h => by cases h) (fun _ => R)
 rw [if_neg (by simp)] at h
 exact h
theorem op1R {E : List Ak} : Runs lq 30 [.ptr 0 0 0] [.row [[.ptr 1 0 0]], .row [[.mp 2, .p (.int .i64 (-1)), .p (.int .i64 0), .p (.bool false)]], .map (kvF E)] (.p (.int .i64 0), [.row [[.ptr 1 0 0]], .row [[.mp 2, .p (.int .i64 (-1)), .p (.int .i64 0), .p (.bool false)]], .map (kvF (Iv E (-1) 0 false Ed).2.1)]) := by
 obtain ⟨e1, e2⟩ := Ua (E := E) (tn := 0) (s := Ed) rfl
 have h := clrR (E := E) (sp := -1) (tn := 0) (off := false) (s := Ed) (by omega)
 have e3 : (Iv E (-1) 0 false Ed).2.2.1 = -1 := by rw [e2]
 have e4 : (Iv E (-1) 0 false Ed).2.2.2 = false := by rw [e2]
 rw [e1, e3, e4] at h
 exact vOp1 h
theorem opG {E E2 : List Ak} {tm nd vn1 : Int} (h : Runs lq 31 [.ptr 0 0 0] (vS 0 (-1) 0 (Iv E (-1) 0 false Ed).2.1 (-1) 0 false) (.p (.int .i64 0), vS tm nd vn1 E2 (-1) 0 false)) :
  Runs lq 13 [.ptr 0 0 0] (dS E (-1) 0 false) (.tup [.ptr 2 0 0, .p (.int .i64 0)], [.row [[.mp 1, .p (.int .i64 (-1)), .p (.int .i64 0), .p (.bool false)]], .map (kvF E2), .row [[.ptr 0 0 0, .p (.int .i64 tm), .p (.int .i64 nd), .p (.int .i64 vn1)]]]) := by
 have k := vOpen (op1R (E := E)) (fun _ => h)
 rw [if_pos (show ((0 : Int) == 0) = true from rfl), if_pos (show ((0 : Int) == 0) = true from rfl)] at k
 exact k
def Bv (E : List Ak) (sp tn : Int) (off : Bool) (vn : Int) (X : List UInt8) : (Int × List Ak × Int × Bool) × Int :=
 if (decide (vn < 32)) = true then (if ((A0 E sp tn off Bs X).1 == 0) = true then Bo (A0 E sp tn off Bs X).2.1 (A0 E sp tn off Bs X).2.2.1 tn (A0 E sp tn off Bs X).2.2.2 Bs else A0 E sp tn off Bs X, vn)
 else (Df E sp tn off Ed Bs X, if ((Df E sp tn off Ed Bs X).1 == 0) = true then 0 else vn)
theorem wrR {E : List Ak} {sp tn te no vn : Int} {off : Bool} {X : List UInt8} (hE : OKE E) (hs : sp ≤ 9223372036854775807) (ht : 0 ≤ tn) (hX : X.length ≤ 10000000000) :
  Runs lq 24 [.ptr 0 0 0, .p (.sl (bs X))] (vS te no vn E sp tn off) (.p (.int .i64 (Bv E sp tn off vn X).1.1), vS te no (Bv E sp tn off vn X).2 (Bv E sp tn off vn X).1.2.1 (Bv E sp tn off vn X).1.2.2.1 tn (Bv E sp tn off vn X).1.2.2.2) := by
 have ka := Fs (tn := tn) (off := off) (s := Bs) (X := X) hE hs
 have A := vWr1 (te := te) (no := no) (vn := vn) (appR (off := off) (s := Bs) hE hs ht hX)
 have B := vWr2 (te := te) (no := no) (vn := vn) (syR (E := (A0 E sp tn off Bs X).2.1) (tn := tn) (off := (A0 E sp tn off Bs X).2.2.2) (s := Bs) ka.s1)
 have R : Runs lq 29 [.ptr 0 0 0, .p (.str Bs), .p (.sl (bs X))] (dS E sp tn off) (.p (.int .i64 (Df E sp tn off Ed Bs X).1), dS (Df E sp tn off Ed Bs X).2.1 (Df E sp tn off Ed Bs X).2.2.1 tn (Df E sp tn off Ed Bs X).2.2.2) := repR (s := Bs) (by simp) hE hs ht hX
 unfold Bv
 by_cases hv : decide (vn < 32) = true
 ·simp only [if_pos hv]
  have h := Za (fun _ => A) (fun _ _ => B) (fun h => by rw [hv] at h; cases h)
  rw [if_pos hv] at h
  by_cases h1 : ((A0 E sp tn off Bs X).1 == 0) = true
  ·simp only [if_pos h1] at h ⊢
   by_cases h2 : ((Bo (A0 E sp tn off Bs X).2.1 (A0 E sp tn off Bs X).2.2.1 tn (A0 E sp tn off Bs X).2.2.2 Bs).1 == 0) = true
   ·rw [if_pos h2] at h
    rw [beq_iff_eq.1 h2]; exact h
   ·rw [if_neg h2] at h; exact h
  ·simp only [if_neg h1] at h ⊢
   exact h
 ·simp only [if_neg hv]
  have h := Za (te := te) (no := no) (E2 := []) (sp2 := 0) (e2 := 0) (off2 := false) (fun h => absurd h hv) (fun h => absurd h hv) (fun _ => R)
  rw [if_neg hv] at h
  by_cases h1 : ((Df E sp tn off Ed Bs X).1 == 0) = true
  ·simp only [if_pos h1] at h ⊢; exact h
  ·simp only [if_neg h1] at h ⊢; exact h
structure VI (L : List (Int × Int)) (E : List Ak) (sp te no vn : Int) : Prop where
 oke : OKE E
 s1 : sp ≤ 9223372036854775807
 oks : ∀ x ∈ L, OkV x
 file : (L = [] ∧ Av Bs E = none) ∨ Av Bs E = some (jv L, ((jv L).length : Int))
 last : C8 (0, -1) L = (te, no)
 new : Av Ed E = none
 n0 : 0 ≤ vn
 n1 : vn ≤ 32
structure Fl (L : List (Int × Int)) (x : Int × Int) (E : List Ak) : Prop where
 oke : OKE E
 oks : ∀ x ∈ L, OkV x
 file : (L = [] ∧ Av Bs E = none) ∨ ∃ Y u, Av Bs E = some (Y, u) ∧ Y <+: jv (L ++ [x]) ∧ ((jv L).length : Int) ≤ u
theorem VI.fl {L : List (Int × Int)} {E : List Ak} {sp te no vn : Int} (h : VI L E sp te no vn) (x : Int × Int) {E' : List Ak} (hE : OKE E') (he : Av Bs E' = Av Bs E) : Fl L x E' := by
 refine ⟨hE, h.oks, ?_⟩
 rw [he]
 rcases h.file with h | h
 ·exact .inl h
 ·exact .inr ⟨_, _, h, by rw [Qo]; exact List.prefix_append _ _, Int.le_refl _⟩
theorem Vb : Ed ≠ Bs := by decide
theorem writeI {L : List (Int × Int)} {E : List Ak} {sp tn te no vn : Int} {off : Bool} (h : VI L E sp te no vn) {x : Int × Int} (hx : OkV x) :
  ((Bv E sp tn off vn (frame (vb x))).1.1 = 0 ∧ ∃ L', VI L' (Bv E sp tn off vn (frame (vb x))).1.2.1 (Bv E sp tn off vn (frame (vb x))).1.2.2.1 x.1 x.2 (IntKind.wrap .i64 ((Bv E sp tn off vn (frame (vb x))).2 + 1)) ∧ C8 (0, -1) L' = x) ∨
  ((Bv E sp tn off vn (frame (vb x))).1.1 = 90 ∧ Fl L x (Bv E sp tn off vn (frame (vb x))).1.2.1) ∨
  ((Bv E sp tn off vn (frame (vb x))).1.1 ≠ 0 ∧ (Bv E sp tn off vn (frame (vb x))).1.1 ≠ 90 ∧ VI L (Bv E sp tn off vn (frame (vb x))).1.2.1 (Bv E sp tn off vn (frame (vb x))).1.2.2.1 te no (Bv E sp tn off vn (frame (vb x))).2) := by
 obtain ⟨hE, hs, hok, hfile, hlast, hnew, hn0, hn1⟩ := h
 have hI : VI L E sp te no vn := ⟨hE, hs, hok, hfile, hlast, hnew, hn0, hn1⟩
 have hokx : ∀ y ∈ L ++ [x], OkV y := by
  intro y hy
  rcases List.mem_append.1 hy with hy | hy
  ·exact hok y hy
  ·simp only [List.mem_singleton] at hy; subst hy; exact hx
 generalize hX : frame (vb x) = X
 have ka := Fs (tn := tn) (off := off) (s := Bs) (X := X) hE hs
 have kb := Gd (tn := tn) (off := (A0 E sp tn off Bs X).2.2.2) (s := Bs) ka.oke ka.s1
 unfold Bv
 by_cases hv : decide (vn < 32) = true
 ·have hvl : vn < 32 := by simpa using hv
  have hw : IntKind.wrap .i64 (vn + 1) = vn + 1 := Aw (by omega) (by omega)
  simp only [if_pos hv]
  by_cases h1 : ((A0 E sp tn off Bs X).1 == 0) = true
  ·simp only [if_pos h1]
   have h1' : (A0 E sp tn off Bs X).1 = 0 := by simpa using h1
   -- what the file holds behind the append
   have hA : ∃ u : Int, Av Bs (A0 E sp tn off Bs X).2.1 = some (jv (L ++ [x]), u) ∧ ((jv L).length : Int) ≤ u := by
    rw [Qo, hX]
    rcases hfile with ⟨hL, hf⟩ | hf
    ·subst hL; exact ⟨0, by simpa [jv, Bu] using N2 hf h1', by simp [jv, Bu]⟩
    ·obtain ⟨Y, _, e2, e3⟩ := Pf (sp := sp) (tn := tn) (off := off) (X := X) hf
     rw [e3 h1'] at e2
     exact ⟨_, e2, Int.le_refl _⟩
   obtain ⟨u, hA, hu⟩ := hA
   rcases Iu (sp := (A0 E sp tn off Bs X).2.2.1) (tn := tn) (off := (A0 E sp tn off Bs X).2.2.2) hA with ⟨e1, e2⟩ | ⟨e1, e2⟩
   ·refine .inl ⟨e1, L ++ [x], ⟨kb.oke, kb.s1, hokx, .inr e2, Ks _ _ _, ?_, by rw [hw]; omega, by rw [hw]; omega⟩, Ks _ _ _⟩
    rw [kb.other Ed Vb, ka.other Ed Vb]; exact hnew
   ·refine .inr (.inl ⟨Pg rfl (Dv hA) e1, kb.oke, hok, .inr ⟨_, _, e2, List.prefix_refl _, hu⟩⟩)
  ·simp only [if_neg h1]
   have h1' : (A0 E sp tn off Bs X).1 ≠ 0 := by simpa using h1
   by_cases h9 : (A0 E sp tn off Bs X).1 = 90
   ·refine .inr (.inl ⟨h9, ka.oke, hok, ?_⟩)
    rcases hfile with ⟨hL, hf⟩ | hf
    ·subst hL
     rcases Wf (sp := sp) (tn := tn) (off := off) (X := X) hf with h | ⟨Y, hY, h⟩
     ·exact .inl ⟨rfl, h⟩
     ·exact .inr ⟨_, _, h, by rw [Qo, hX]; simpa [jv, Bu] using hY, by simp [jv, Bu]⟩
    ·obtain ⟨Y, hY, e2, _⟩ := Pf (sp := sp) (tn := tn) (off := off) (X := X) hf
     exact .inr ⟨_, _, e2, by rw [Qo, hX]; exact (List.prefix_append_right_inj _).2 hY, Int.le_refl _⟩
   ·refine .inr (.inr ⟨h1', h9, ?_⟩)
    rcases Sr h1' with h | h
    ·exact absurd h h9
    ·rw [h]; exact ⟨hE, ka.s1, hok, hfile, hlast, hnew, hn0, hn1⟩
 ·simp only [if_neg hv]
  obtain ⟨r1, r2, r3, r4⟩ := repF_ok (tn := tn) (off := off) (nw := Ed) (s := Bs) (X := X) hE hs (by decide)
  rcases r4 hnew with ⟨e1, e2⟩ | ⟨e1, e2⟩
  ·have h1 : ((Df E sp tn off Ed Bs X).1 == 0) = true := by simp [e1]
   simp only [if_pos h1]
   refine .inl ⟨e1, [x], ⟨r1, r2, by simpa using hx, .inr ?_, by simp [C8], Y9 hE hs Vb hnew e1, by decide, by decide⟩, by simp [C8]⟩
   rw [e2]; simp [jv, Bu, hX]
  ·have h1 : ¬ ((Df E sp tn off Ed Bs X).1 == 0) = true := by simpa using e1
   simp only [if_neg h1]
   by_cases h9 : (Df E sp tn off Ed Bs X).1 = 90
   ·exact .inr (.inl ⟨h9, hI.fl x r1 e2⟩)
   ·refine .inr (.inr ⟨e1, h9, ?_⟩)
    rcases Y8 rfl rfl Vb hnew e1 with h | h
    ·exact absurd h h9
    ·rw [h]; exact ⟨hE, r2, hok, hfile, hlast, hnew, hn0, hn1⟩
theorem setI {L : List (Int × Int)} {E : List Ak} {sp tn te no vn tt nn : Int} {off : Bool} (h : VI L E sp te no vn) (ht : 0 ≤ tn) :
  ∃ e E' sp' off' te' no' vn', Runs lq 10 [.ptr 0 0 0, .p (.int .i64 tt), .p (.int .i64 nn)] (vS te no vn E sp tn off) (.p (.int .i64 e), vS te' no' vn' E' sp' tn off') ∧
  ((e = 0 ∧ OkV (tt, nn) ∧ ∃ L', VI L' E' sp' te' no' vn' ∧ C8 (0, -1) L' = (tt, nn)) ∨ (e = 90 ∧ OkV (tt, nn) ∧ Fl L (tt, nn) E') ∨ (e ≠ 0 ∧ e ≠ 90 ∧ te' = te ∧ no' = no ∧ VI L E' sp' te' no' vn')) := by
 have ok4 : decide (tt < 0) = false → decide (tt > 1099511627776) = false → decide (nn ≥ (-1)) = true → decide (nn ≤ 63) = true → OkV (tt, nn) := by
  intro a b c d
  simp only [decide_eq_false_iff_not, decide_eq_true_eq] at a b c d
  exact ⟨by simp only; omega, by simp only; omega, by simp only; omega, by simp only; omega⟩
 have P1 : OkV (tt, nn) → Runs lq 21 [.p (.int .i64 tt)] [] ((.tup [(.sl (bs (Af (Int.toNat tt))) 0 ((Af (Int.toNat tt)).length)), .p (.int .i64 0)]), [.spare 1 ((Af (Int.toNat tt)).length)]) := fun o => (Lg ⟨o.1, by have := o.2.1; simp only at this; omega⟩).lim rfl rfl
 have P2 : OkV (tt, nn) → Runs lq 23 [.p (.int .i64 nn)] [] ((.sl (bs (Af (zz nn))) 0 ((Af (zz nn)).length)), [.spare 1 ((Af (zz nn)).length)]) := fun o => (Yl (by have := o.2.2.1; simp only at this; omega) (by have := o.2.2.2; simp only at this; omega)).lim rfl rfl
 have P3 : OkV (tt, nn) → List.length (α := UInt8) (Af (Int.toNat tt)) + List.length (α := UInt8) (Af (zz nn)) ≤ 200000000000000 := fun o => by
  have := Qp o; simp only [vb, List.length_append] at this; omega
 have P4 : OkV (tt, nn) → Runs lq 22 [.p (.sl []), (.p (.sl (bs ((Af (Int.toNat tt)) ++ (Af (zz nn))))))] [] ((.tup [(.p (.sl (bs (frame ((Af (Int.toNat tt)) ++ (Af (zz nn))))))), .p (.int .i64 0)]), []) := fun o =>
  (vPut (h := []) (b := Af (Int.toNat tt) ++ Af (zz nn)) (by have := Qp o; simp only [vb] at this; omega) (by simp)).lim rfl rfl
 have P5 : OkV (tt, nn) → Runs lq 24 [(.ptr 0 0 0), (.p (.sl (bs (frame ((Af (Int.toNat tt)) ++ (Af (zz nn)))))))] (vS te no vn E sp tn off) _ := fun o =>
  wrR (te := te) (no := no) (vn := vn) (tn := tn) (off := off) (X := frame (vb (tt, nn))) h.oke h.s1 ht (Nat.le_trans (Yw (by have := Qp o; omega)) (by omega))
 have k := vSet (fun a b c d _ _ _ _ => P1 (ok4 a b c d)) (fun a b c d _ _ _ _ => P2 (ok4 a b c d)) (fun a b c d _ _ _ _ => P3 (ok4 a b c d)) (fun a b c d _ _ _ _ => P4 (ok4 a b c d)) (fun a b c d _ _ _ _ => P5 (ok4 a b c d))
  (fun a b c d _ _ _ _ _ => P1 (ok4 a b c d)) (fun a b c d _ _ _ _ _ => P2 (ok4 a b c d)) (fun a b c d _ _ _ _ _ => P3 (ok4 a b c d)) (fun a b c d _ _ _ _ _ => P4 (ok4 a b c d)) (fun a b c d _ _ _ _ _ => P5 (ok4 a b c d))
  (fun a b c d _ _ => P1 (ok4 a b c d)) (fun a b c d _ _ => P2 (ok4 a b c d)) (fun a b c d _ _ => P3 (ok4 a b c d)) (fun a b c d _ _ => P4 (ok4 a b c d)) (fun a b c d _ _ => P5 (ok4 a b c d))
 have hno : ∀ e : Int, e ≠ 0 → e ≠ 90 → Runs lq 10 [.ptr 0 0 0, .p (.int .i64 tt), .p (.int .i64 nn)] (vS te no vn E sp tn off) (.p (.int .i64 e), vS te no vn E sp tn off) → ∃ e E' sp' off' te' no' vn', Runs lq 10 [.ptr 0 0 0, .p (.int .i64 tt), .p (.int .i64 nn)] (vS te no vn E sp tn off) (.p (.int .i64 e), vS te' no' vn' E' sp' tn off') ∧
  ((e = 0 ∧ OkV (tt, nn) ∧ ∃ L', VI L' E' sp' te' no' vn' ∧ C8 (0, -1) L' = (tt, nn)) ∨ (e = 90 ∧ OkV (tt, nn) ∧ Fl L (tt, nn) E') ∨ (e ≠ 0 ∧ e ≠ 90 ∧ te' = te ∧ no' = no ∧ VI L E' sp' te' no' vn')) :=
  fun e h0 h9 hr => ⟨_, _, _, _, _, _, _, hr, .inr (.inr ⟨h0, h9, rfl, rfl, h⟩)⟩
 have hsame : OkV (tt, nn) → tt = te → nn = no → Runs lq 10 [.ptr 0 0 0, .p (.int .i64 tt), .p (.int .i64 nn)] (vS te no vn E sp tn off) (.p (.int .i64 0), vS te no vn E sp tn off) → ∃ e E' sp' off' te' no' vn', Runs lq 10 [.ptr 0 0 0, .p (.int .i64 tt), .p (.int .i64 nn)] (vS te no vn E sp tn off) (.p (.int .i64 e), vS te' no' vn' E' sp' tn off') ∧
  ((e = 0 ∧ OkV (tt, nn) ∧ ∃ L', VI L' E' sp' te' no' vn' ∧ C8 (0, -1) L' = (tt, nn)) ∨ (e = 90 ∧ OkV (tt, nn) ∧ Fl L (tt, nn) E') ∨ (e ≠ 0 ∧ e ≠ 90 ∧ te' = te ∧ no' = no ∧ VI L E' sp' te' no' vn')) :=
  fun o e1 e2 hr => ⟨_, _, _, _, _, _, _, hr, .inl ⟨rfl, o, L, h, by rw [h.last, e1, e2]⟩⟩
 have hwr : OkV (tt, nn) → Runs lq 10 [.ptr 0 0 0, .p (.int .i64 tt), .p (.int .i64 nn)] (vS te no vn E sp tn off) (if ((Bv E sp tn off vn (frame (vb (tt, nn)))).1.1 == 0) = true then (.p (.int .i64 0), vS tt nn (IntKind.wrap .i64 ((Bv E sp tn off vn (frame (vb (tt, nn)))).2 + 1)) (Bv E sp tn off vn (frame (vb (tt, nn)))).1.2.1 (Bv E sp tn off vn (frame (vb (tt, nn)))).1.2.2.1 tn (Bv E sp tn off vn (frame (vb (tt, nn)))).1.2.2.2) else (.p (.int .i64 (Bv E sp tn off vn (frame (vb (tt, nn)))).1.1), vS te no (Bv E sp tn off vn (frame (vb (tt, nn)))).2 (Bv E sp tn off vn (frame (vb (tt, nn)))).1.2.1 (Bv E sp tn off vn (frame (vb (tt, nn)))).1.2.2.1 tn (Bv E sp tn off vn (frame (vb (tt, nn)))).1.2.2.2)) → ∃ e E' sp' off' te' no' vn', Runs lq 10 [.ptr 0 0 0, .p (.int .i64 tt), .p (.int .i64 nn)] (vS te no vn E sp tn off) (.p (.int .i64 e), vS te' no' vn' E' sp' tn off') ∧
  ((e = 0 ∧ OkV (tt, nn) ∧ ∃ L', VI L' E' sp' te' no' vn' ∧ C8 (0, -1) L' = (tt, nn)) ∨ (e = 90 ∧ OkV (tt, nn) ∧ Fl L (tt, nn) E') ∨ (e ≠ 0 ∧ e ≠ 90 ∧ te' = te ∧ no' = no ∧ VI L E' sp' te' no' vn')) := by
  intro o hr
  rcases writeI (tn := tn) (off := off) h o with ⟨e1, L', e2, e3⟩ | ⟨e1, e2⟩ | ⟨e1, e2, e3⟩
  ·rw [if_pos (by simp [e1])] at hr
   exact ⟨_, _, _, _, _, _, _, hr, .inl ⟨rfl, o, L', e2, e3⟩⟩
  ·rw [if_neg (by simp [e1])] at hr
   exact ⟨_, _, _, _, _, _, _, hr, .inr (.inl ⟨e1, o, e2⟩)⟩
  ·rw [if_neg (by simpa using e1)] at hr
   exact ⟨_, _, _, _, _, _, _, hr, .inr (.inr ⟨e1, e2, rfl, rfl, e3⟩)⟩
 by_cases c1 : decide (tt < 0) = true
 ·rw [if_pos c1] at k; exact hno 1 (by decide) (by decide) k
 rw [if_neg c1] at k
 by_cases c2 : decide (tt > 1099511627776) = true
 ·rw [if_pos c2] at k; exact hno 1 (by decide) (by decide) k
 rw [if_neg c2] at k
 by_cases c3 : decide (nn ≥ (-1)) = true
 case neg => rw [if_neg c3] at k; exact hno 1 (by decide) (by decide) k
 rw [if_pos c3] at k
 by_cases c4 : decide (nn ≤ 63) = true
 case neg => rw [if_neg c4] at k; exact hno 1 (by decide) (by decide) k
 rw [if_pos c4] at k
 have o := ok4 (by simpa using c1) (by simpa using c2) c3 c4
 by_cases c5 : decide (tt < te) = true
 ·rw [if_pos c5] at k; exact hno 120 (by decide) (by decide) k
 rw [if_neg c5] at k
 by_cases c6 : (tt == te) = true
 ·rw [if_pos c6] at k
  by_cases c7 : (no == (-1)) = true
  ·rw [if_pos c7] at k
   by_cases c8 : (nn == no) = true
   ·rw [if_pos c8] at k; exact hsame o (by simpa using c6) (by simpa using c8) k
   ·rw [if_neg c8] at k; exact hwr o k
  ·rw [if_neg c7] at k
   by_cases c9 : (no == nn) = true
   ·rw [if_pos c9] at k
    by_cases c8 : (nn == no) = true
    ·rw [if_pos c8] at k; exact hsame o (by simpa using c6) (by simpa using c8) k
    ·rw [if_neg c8] at k; exact hwr o k
   ·rw [if_neg c9] at k; exact hno 120 (by decide) (by decide) k
 ·rw [if_neg c6] at k; exact hwr o k
theorem Zg : ∀ (A : List (List UInt8)) (b : List UInt8) (n : Nat), (Bu A).length ≤ n → (wn (A ++ [b]) n).1 = A.length ∨ (wn (A ++ [b]) n).1 = A.length + 1
 | [], b, n, _ => by
  simp only [List.nil_append, wn]
  split
  ·exact .inr rfl
  ·exact .inl rfl
 | a :: r, b, n, h => by
  have e : Bu (a :: r) = frame a ++ Bu r := by simp [Bu]
  rw [e, List.length_append] at h
  simp only [List.cons_append, wn]
  rw [if_pos (by omega)]
  rcases Zg r b (n - (frame a).length) (by omega) with h | h
  ·exact .inl (by simp [h])
  ·exact .inr (by simp [h])
theorem opC {L : List (Int × Int)} {x : Int × Int} {E : List Ak} {ks : List Bt} (h : Fl L x E) (hx : OkV x) :
  ∃ E2 tt nn vn1, Runs lq 13 [.ptr 0 0 0] (dS (C0 ks E) (-1) 0 false) (.tup [.ptr 2 0 0, .p (.int .i64 0)], [.row [[.mp 1, .p (.int .i64 (-1)), .p (.int .i64 0), .p (.bool false)]], .map (kvF E2), .row [[.ptr 0 0 0, .p (.int .i64 tt), .p (.int .i64 nn), .p (.int .i64 vn1)]]]) ∧ ((tt, nn) = C8 (0, -1) L ∨ (tt, nn) = x) := by
 have hC := Wj h.oke ks
 have kk := Wi (tn := 0) (off := false) (sp := -1) (s := Ed) hC (by omega)
 have eV : Av Bs (Iv (C0 ks E) (-1) 0 false Ed).2.1 = Av Bs (C0 ks E) := kk.other Bs (by decide)
 rcases h.file with ⟨hL, hf⟩ | ⟨Y, u, hf, hY, hu⟩
 ·subst hL
  exact ⟨_, _, _, _, opG (ldE (by rw [eV]; exact T9 hf ks)), .inl rfl⟩
 ·obtain ⟨n, n1, n2, hc⟩ := Wk h.oke hf ks
  have hokx : ∀ y ∈ L ++ [x], OkV y := by
   intro y hy
   rcases List.mem_append.1 hy with hy | hy
   ·exact h.oks y hy
   ·simp only [List.mem_singleton] at hy; subst hy; exact hx
  have eY : Y.take n = (Bu ((L ++ [x]).map vb)).take n := by
   have := List.prefix_iff_eq_take.1 hY
   rw [this, List.take_take, Nat.min_eq_left n2]
   rfl
  have hsc := Y4 ((L ++ [x]).map vb) n (by
   intro y hy
   obtain ⟨z, hz, rfl⟩ := List.mem_map.1 hy
   have := Qp (hokx z hz); omega)
  rw [← eY] at hsc
  have hwl := wn_le ((L ++ [x]).map vb) n
  have hn : (Bu (L.map vb)).length ≤ n := by
   have : (jv L).length ≤ n := by omega
   exact this
  have hlen : (Y.take n).length = n := by rw [List.length_take]; omega
  have hf2 : Av Bs (Iv (C0 ks E) (-1) 0 false Ed).2.1 = some (Y.take n, (n : Int)) := by rw [eV]; exact hc
  have hwn := Zg (L.map vb) (vb x) n hn
  rw [← List.map_singleton (f := vb), ← List.map_append, List.length_map] at hwn
  have hk : ∃ M : List (Int × Int), ((L ++ [x]).map vb).take (wn ((L ++ [x]).map vb) n).1 = M.map vb ∧ (∀ y ∈ M, OkV y) ∧ M.length ≤ L.length + 1 ∧ (C8 (0, -1) M = C8 (0, -1) L ∨ C8 (0, -1) M = x) := by
   rcases hwn with e | e
   ·exact ⟨L, by rw [e, ← List.map_take, List.take_left' rfl], h.oks, by omega, .inl rfl⟩
   ·exact ⟨L ++ [x], by rw [e, ← List.map_take, List.take_of_length_le (by simp)], hokx, by simp, .inr (Ks _ _ _)⟩
  obtain ⟨M, m1, m2, m3, m4⟩ := hk
  rw [m1] at hsc
  have hOE := h.oke.1 _ (Fp hf)
  simp only at hOE
  have hjl := It (L.map vb)
  rw [List.length_map] at hjl
  obtain ⟨E2, hr⟩ := ldF (te := 0) (no := -1) (vn := 0) (tn := 0) kk.oke (L := M) (by omega) m2 hf2 hsc (by rw [hlen]; exact hwl.2.1)
  exact ⟨E2, _, _, _, opG hr, m4⟩
theorem Zh {ops : List OpV} {ks : List Bt} {tn : Int} (hl : ops.length ≤ 100000000000000) (ht : 0 ≤ tn) : ∀ (k i : Nat) (L : List (Int × Int)) (E : List Ak) (sp te no vn md oh : Int) (off : Bool), ops.length - i = k → i ≤ ops.length → VI L E sp te no vn → OkV (md, oh) →
  ∃ L' E' sp' off' te' no' vn' tm' nd' md' oh', C8 (0, -1) L' = (tm', nd') ∧ OkV (md', oh') ∧ Fl L' (md', oh') E' ∧
  LoopN lq 0 (Aj lf4 0) (tl 0 137 [(0, (.p (.sl (Bq ops)))), (3, (.p (.sl (A3 ks)))), (9, (.ptr 0 0 0)), (10, (.ptr 2 0 0)), (12, .p (.int .i64 te)), (13, .p (.int .i64 no)), (14, .p (.int .i64 md)), (15, .p (.int .i64 oh)), (16, (.p (.int .i64 (i : Int))))]) [.row [[.mp 1, .p (.int .i64 sp), .p (.int .i64 tn), .p (.bool off)]], .map (kvF E), .row [[.ptr 0 0 0, .p (.int .i64 te), .p (.int .i64 no), .p (.int .i64 vn)]]] ((.exit 0), (tl 0 137 [(3, (.p (.sl (A3 ks)))), (9, (.ptr 0 0 0)), (12, (.p (.int .i64 tm'))), (13, (.p (.int .i64 nd'))), (14, (.p (.int .i64 md'))), (15, (.p (.int .i64 oh')))]), [.row [[.mp 1, .p (.int .i64 sp'), .p (.int .i64 tn), .p (.bool off')]], .map (kvF E'), .row [[.ptr 0 0 0, .p (.int .i64 te'), .p (.int .i64 no'), .p (.int .i64 vn')]]]) := by
 intro k
 induction k with
 | zero =>
  intro i L E sp te no vn md oh off hk hi hI ho
  obtain rfl : i = ops.length := by omega
  exact ⟨L, _, _, _, _, _, _, _, _, _, _, hI.last, ho, hI.fl _ hI.oke rfl, keepV_n (by rw [Kr]; simp)⟩
 | succ k ih =>
  intro i L E sp te no vn md oh off hk hi hI ho
  have hlt : i < ops.length := by omega
  have hc : (decide ((i : Int) < ((List.length (Bq ops) : Nat) : Int))) = true := by rw [Kr]; simp; omega
  obtain ⟨⟨ok, tt, nn, oN, oM, ob, oks⟩, hx⟩ : ∃ x, ops[i]? = some x := ⟨ops[i], by simp [hlt]⟩
  obtain ⟨e, E', sp', off', te', no', vn', hr, h⟩ := setI (tt := tt) (nn := nn) (off := off) hI ht
  rcases h with ⟨e0, o, L', hI', hlast⟩ | ⟨e9, o, hF⟩ | ⟨e0, e9, rfl, rfl, hI'⟩
  ·have hte : te' = tt ∧ no' = nn := by have := hI'.last; rw [hlast] at this; simpa [eq_comm] using this
   obtain ⟨rfl, rfl⟩ := hte
   obtain ⟨L2, E2, sp2, off2, te2, no2, vn2, tm', nd', md', oh', a1, a2, a3, a4⟩ := ih (i + 1) L' E' sp' te' no' vn' te' no' off' (by omega) (by omega) hI' o
   rw [← nx (by omega)] at a4
   exact ⟨L2, E2, sp2, off2, te2, no2, vn2, tm', nd', md', oh', a1, a2, a3, Zd ok _ _ oN oM ob oks hc hx hr (by simp [e0]) a4⟩
  ·exact ⟨L, _, _, _, _, _, _, _, _, _, _, hI.last, o, hF, Wl ok tt nn oN oM ob oks hc hx hr (by simp [e9]) (by simp [e9])⟩
  ·obtain ⟨L2, E2, sp2, off2, te2, no2, vn2, tm', nd', md', oh', a1, a2, a3, a4⟩ := ih (i + 1) L E' sp' te' no' vn' md oh off' (by omega) (by omega) hI' ho
   rw [← nx (by omega)] at a4
   exact ⟨L2, E2, sp2, off2, te2, no2, vn2, tm', nd', md', oh', a1, a2, a3, Wm ok tt nn oN oM ob oks hc hx hr (by simpa using e0) (by simpa using e9) a4⟩
theorem lawKe {n m : Int} {ops : List OpV} {ks : List Bt} (hl : ops.length ≤ 100000000000000) (hk : ks.length ≤ 100000000000000) (hn : n ≤ 9223372036854775807) :
  Runs lq 4 [(.p (.sl (Bq ops))), .p (.int .i64 n), .p (.int .i64 m), (.p (.sl (A3 ks)))] [] (.p (.bool true), []) := by
 have hoke0 : OKE [] := ⟨fun e he => (by cases he), List.nodup_nil⟩
 have st := stR (E := []) (sp := -1) (tn := 0) (off := false) (n := n) (m := m)
 have hb : (Ld [] (-1) 0 false n m).2.1 ≤ 9223372036854775807 ∧ 0 ≤ (Ld [] (-1) 0 false n m).2.2 := by
  unfold Ld
  rw [if_neg (by simp)]
  split
  ·exact ⟨by simp, by simp⟩
  ·split
   ·exact ⟨by simp, by simp⟩
   ·rename_i h; simp only [decide_eq_true_eq] at h; exact ⟨hn, by simp only; omega⟩
 have kp : ¬ decide (((List.length (A3 ks) : Nat) : Int) > 50) = true → Runs lq 14 [(.p (.sl (A3 ks)))] [] ((.p (.bool (Bx ks))), []) := fun h => kpR (by rw [Ht] at h; simp at h; omega)
 have op0 : Runs lq 13 [.ptr 0 0 0] (dS [] (-1) 0 false) (.tup [.ptr 2 0 0, .p (.int .i64 0)], [.row [[.mp 1, .p (.int .i64 (-1)), .p (.int .i64 0), .p (.bool false)]], .map (kvF []), .row [[.ptr 0 0 0, .p (.int .i64 0), .p (.int .i64 (-1)), .p (.int .i64 0)]]]) := opG (E := []) (ldE rfl)
 obtain ⟨L, E', sp', off', te', no', vn', tm', nd', md', oh', a1, a2, a3, a4⟩ := Zh (ops := ops) (ks := ks) hl hb.2 ops.length 0 [] [] _ 0 (-1) 0 0 (-1) false rfl (Nat.zero_le _) ⟨hoke0, hb.1, (by intro x hx; cases hx), .inl ⟨rfl, rfl⟩, rfl, rfl, by omega, by omega⟩ ⟨by simp, by simp, by simp, by simp⟩
 obtain ⟨E2, tt, nn, vn1, o1, o2⟩ := opC (ks := ks) a3 a2
 have hcr := crR (sp := sp') (tn := (Ld [] (-1) 0 false n m).2.2) (off := off') (l := ks) a3.oke
 have h := lawKp nwR op0 lvR (fun _ h => kp (by simp [h])) (fun _ _ _ => st) (fun _ _ _ => a4) (fun _ _ hkb => by rw [if_pos hkb] at hcr; exact hcr) (fun _ _ _ => o1)
 rw [a1] at o2
 split at h
 ·exact h
 split at h
 ·exact h
 split at h
 ·rcases o2 with o2 | o2
  ·obtain ⟨rfl, rfl⟩ := Prod.mk.inj o2
   rw [if_pos (by simp), if_pos (by simp)] at h
   exact h
  ·obtain ⟨rfl, rfl⟩ := Prod.mk.inj o2
   have e1 : (tt == tt) = true := by simp
   have e2 : (nn == nn) = true := by simp
   rw [e1, e2, if_pos rfl] at h
   split at h
   ·split at h
    ·exact h
    ·exact h
   ·exact h
 ·exact h
end Go.Proofs.Ythmjaeflpgcmdaa

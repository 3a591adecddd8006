import Derived.Test.YthmjaeflpgcmdaaLsVotW
import Derived.Test.YthmjaeflpgcmdaaLsG7
import Derived.Test.YthmjaeflpgcmdaaLsG6
import Derived.KernelRfl
set_option linter.unusedVariables false
set_option linter.unusedSimpArgs false
set_option maxRecDepth 100000
namespace Go.Proofs.Ythmjaeflpgcmdaa
open Go Go.LS
abbrev Dy : List UInt8 := [115, 110, 97, 112]
abbrev B0 : List UInt8 := [115, 110, 97, 112, 46, 110, 101, 119]
theorem repR {E : List Aq} {sp tn : Int} {off : Bool} {X : List UInt8} (hE : OKE E) (hs : sp ≤ 9223372036854775807) (ht : 0 ≤ tn) (hX : X.length ≤ 10000000000) :
  Runs lq 29 [.ptr 0 0 0, .p (.str Dy), .p (.sl (bs X))] (dS E sp tn off) (.p (.int .i64 (If E sp tn off B0 Dy X).1), dS (If E sp tn off B0 Dy X).2.1 (If E sp tn off B0 Dy X).2.2.1 tn (If E sp tn off B0 Dy X).2.2.2) := by
 have ka := Oz (tn := tn) (off := off) (s := B0) (X := X) hE hs
 have kb := Nm (tn := tn) (off := (Bq E sp tn off B0 X).2.2.2) (s := B0) ka.oke ka.s1
 have A := vRep1 (appR (off := off) (s := B0) hE hs ht hX)
 have B := vRep2 (syR (E := (Bq E sp tn off B0 X).2.1) (tn := tn) (off := (Bq E sp tn off B0 X).2.2.2) (s := B0) ka.s1)
 have D := vRep3 (rnR (E := (B4 (Bq E sp tn off B0 X).2.1 (Bq E sp tn off B0 X).2.2.1 tn (Bq E sp tn off B0 X).2.2.2 B0).2.1) (tn := tn) (off := (B4 (Bq E sp tn off B0 X).2.1 (Bq E sp tn off B0 X).2.2.1 tn (Bq E sp tn off B0 X).2.2.2 B0).2.2.2) (s := B0) (zz := Dy) kb.s1)
 have h := X7 (fun _ _ _ => A) (fun _ _ _ => B) (fun _ _ _ => D) (fun _ _ _ => A) (fun _ _ _ => B) (fun _ _ _ => D) (fun _ _ => A) (fun _ _ => B) (fun _ => A)
 simp only [If]
 by_cases h1 : ((Bq E sp tn off B0 X).1 == 0) = true
 ·rw [if_pos h1] at h ⊢
  by_cases h2 : ((B4 (Bq E sp tn off B0 X).2.1 (Bq E sp tn off B0 X).2.2.1 tn (Bq E sp tn off B0 X).2.2.2 B0).1 == 0) = true
  ·rw [if_pos h2] at h ⊢
   by_cases h3 : ((Dm (B4 (Bq E sp tn off B0 X).2.1 (Bq E sp tn off B0 X).2.2.1 tn (Bq E sp tn off B0 X).2.2.2 B0).2.1 (B4 (Bq E sp tn off B0 X).2.1 (Bq E sp tn off B0 X).2.2.1 tn (Bq E sp tn off B0 X).2.2.2 B0).2.2.1 tn (B4 (Bq E sp tn off B0 X).2.1 (Bq E sp tn off B0 X).2.2.1 tn (Bq E sp tn off B0 X).2.2.2 B0).2.2.2 B0 Dy).1 == 0) = true
   ·rw [if_pos h3] at h
    rw [beq_iff_eq.1 h3]
    exact h
   ·rw [if_neg h3] at h
    exact h
  ·rw [if_neg h2] at h ⊢
   exact h
 ·rw [if_neg h1] at h ⊢
  exact h
theorem clrR {E : List Aq} {sp tn : Int} {off : Bool} {s : List UInt8} (hs : sp ≤ 9223372036854775807) :
  Runs lq 27 [.ptr 0 0 0, .p (.str s)] (dS E sp tn off) (.p (.int .i64 (Ga E sp tn off s).1), dS (Ga E sp tn off s).2.1 (Ga E sp tn off s).2.2.1 tn (Ga E sp tn off s).2.2.2) := by
 have h := vClear (rmR (E := E) (tn := tn) (off := off) (s := s) hs)
 simp only [Ga]
 by_cases h1 : ((Er E sp tn off s).1 == 4) = true
 ·rw [if_pos h1] at h ⊢; exact h
 ·rw [if_neg h1] at h ⊢; exact h
theorem savR {E : List Aq} {sp tn : Int} {off : Bool} {b : List UInt8} (hE : OKE E) (hs : sp ≤ 9223372036854775807) (ht : 0 ≤ tn) (hb : b.length ≤ 65536) :
  Runs lq 11 [.ptr 0 0 0, .p (.sl (bs b))] (dS E sp tn off) (.p (.int .i64 (E5 E sp tn off B0 Dy (frame b)).1), dS (E5 E sp tn off B0 Dy (frame b)).2.1 (E5 E sp tn off B0 Dy (frame b)).2.2.1 tn (E5 E sp tn off B0 Dy (frame b)).2.2.2) := by
 have kc := O0 (tn := tn) (off := off) (s := B0) hE hs
 have P : Runs lq 22 [.p (.sl []), .p (.sl (bs b))] [] (.tup [.p (.sl (bs (frame b))), .p (.int .i64 0)], []) := (vPut (h := []) hb (by simp)).lim rfl rfl
 have A := vSave1 (clrR (E := E) (tn := tn) (off := off) (s := B0) hs)
 have B := vSave2 (repR (E := (Ga E sp tn off B0).2.1) (tn := tn) (off := (Ga E sp tn off B0).2.2.2) (X := frame b) kc.oke kc.s1 ht (Nat.le_trans (Rw hb) (by omega)))
 have h := vSave (X := []) P (fun _ _ => A) (fun _ _ => B) (fun _ _ => A) (fun _ _ => B) (fun _ => A)
 simp only [E5]
 by_cases h1 : ((Ga E sp tn off B0).1 == 0) = true
 ·rw [if_pos h1] at h ⊢
  by_cases h2 : ((If (Ga E sp tn off B0).2.1 (Ga E sp tn off B0).2.2.1 tn (Ga E sp tn off B0).2.2.2 B0 Dy (frame b)).1 == 0) = true
  ·rw [if_pos h2] at h
   rw [beq_iff_eq.1 h2]
   exact h
  ·rw [if_neg h2] at h
   exact h
 ·rw [if_neg h1] at h ⊢
  exact h
theorem Tm {b : List UInt8} (hb : b.length ≤ 65536) : De (frame b) = ([b], (frame b).length) := by
 have h := X6 [b] (frame b).length (by intro x hx; simp only [List.mem_singleton] at hx; subst hx; exact hb)
 have e1 : Da [b] = frame b := by simp [Da]
 have e2 : wn [b] (frame b).length = (1, (frame b).length) := by simp [wn]
 rw [e1, e2, List.take_length] at h
 simpa using h
theorem ldR {E : List Aq} {b : List UInt8} {u : Int} (hE : OKE E) (hb : b.length ≤ 65536) (h : A6 Dy E = some (frame b, u)) :
  Runs lq 6 [.ptr 0 0 0] (dS E (-1) 0 false) (.tup [.p (.sl (bs b)), .p (.int .i64 0)], dS E (-1) 0 false) := by
 have hf := Kf h
 have hg : Ae Dy E = (frame b, u) := by simp [Ae, h]
 have hl := Rw hb
 have e := Tm hb
 have R := rdR (sp := -1) (tn := 0) hE (s := Dy) (by rfl) hf
 have S : Runs lq 18 [.p (.sl (bs (frame b)))] [] (.tup [.p (.sl (ef (De (frame b)).1)), .p (.int .i64 ((De (frame b)).2 : Int))], []) := (vScan (by omega)).lim rfl rfl
 have k := vLoad (E := E) (fun _ => R) (fun _ => by rw [hg]; exact S) (fun _ _ _ => by rw [hg, e]; simp) (fun h' => by rw [hf] at h'; cases h')
 rw [hg, e] at k
 rw [if_pos hf, if_pos (by simp [ef]), if_pos (by simp [A9])] at k
 exact k
theorem ldN {E : List Aq} (h : A6 Dy E = none) : Runs lq 6 [.ptr 0 0 0] (dS E (-1) 0 false) (.tup [.tight [], .p (.int .i64 4)], dS E (-1) 0 false) := by
 have hf := Oy h
 have R : Runs lq 17 [.ptr 0 0 0, .p (.str Dy)] (dS E (-1) 0 false) (.tup [.p (.sl []), .p (.int .i64 4)], dS E (-1) 0 false) := by
  have h := dRead (E := E) (sp := -1) (tn := 0) (off := false) (s := Dy) (fun _ _ h' => by rw [hf] at h'; cases h')
  rw [if_neg (by simp), if_pos (by rfl), if_neg (by simp [hf])] at h
  exact h.lim rfl rfl
 have k := vLoad (E := E) (fun h' => by rw [hf] at h'; cases h') (fun h' => by rw [hf] at h'; cases h') (fun h' => by rw [hf] at h'; cases h') (fun _ => R)
 rw [if_neg (by simp [hf])] at k
 exact k
def SnI (E : List Aq) (la : List UInt8) (av : Bool) : Prop := if av = true then la.length ≤ 65536 ∧ A6 Dy E = some (frame la, ((frame la).length : Int)) else A6 Dy E = none
theorem Yd {l : List (List UInt8)} {ks : List B1} {tn : Int} (hl : l.length ≤ 100000000000000) (ht : 0 ≤ tn) : ∀ (k i : Nat) (E : List Aq) (sp : Int) (off : Bool) (la mi : List UInt8) (av : Bool), l.length - i = k → i ≤ l.length → OKE E → sp ≤ 9223372036854775807 → SnI E la av →
  (∃ E' sp' off', LoopN lq 0 (Am lf5 0) (tl 0 101 [(0, (.p (.sl (ef l)))), (3, (.p (.sl (A4 ks)))), (9, (.ptr 0 0 0)), (10, .p (.str la)), (11, .p (.str mi)), (12, .p (.bool av)), (13, (.p (.int .i64 (i : Int))))]) (dS E sp tn off) (.ret, (tl 0 101 [(8, .p (.bool true))]), dS E' sp' tn off')) ∨
  (∃ E' sp' off' la' mi' av', OKE E' ∧ SnI E' la' av' ∧ LoopN lq 0 (Am lf5 0) (tl 0 101 [(0, (.p (.sl (ef l)))), (3, (.p (.sl (A4 ks)))), (9, (.ptr 0 0 0)), (10, .p (.str la)), (11, .p (.str mi)), (12, .p (.bool av)), (13, (.p (.int .i64 (i : Int))))]) (dS E sp tn off) ((.exit 0), (tl 0 101 [(3, (.p (.sl (A4 ks)))), (9, (.ptr 0 0 0)), (10, (.p (.str la'))), (11, (.p (.str mi'))), (12, (.p (.bool av')))]), dS E' sp' tn off')) := by
 intro k
 induction k with
 | zero =>
  intro i E sp off la mi av hk hi hE hs hI
  obtain rfl : i = l.length := by omega
  exact .inr ⟨_, _, _, _, _, _, hE, hI, Zx (by simp [ef])⟩
 | succ k ih =>
  intro i E sp off la mi av hk hi hE hs hI
  have hlt : i < l.length := by omega
  have hc : (decide ((i : Int) < ((List.length (ef l) : Nat) : Int))) = true := by simp [ef]; omega
  obtain ⟨b, hx⟩ : ∃ x, l[i]? = some x := ⟨l[i], by simp [hlt]⟩
  by_cases hb : (decide (((List.length (bs b) : Nat) : Int) > 2000)) = true
  ·exact .inl ⟨_, _, _, X8 hc hx hb lvR⟩
  replace hb : (decide (((List.length (bs b) : Nat) : Int) > 2000)) = false := by simpa using hb
  have hbl : b.length ≤ 65536 := by rw [A9] at hb; simp at hb; omega
  have S := savR (off := off) hE hs ht hbl
  obtain ⟨o1, o2, o3⟩ := Yc (tn := tn) (off := off) (nw := B0) (s := Dy) (X := frame b) hE hs (by decide)
  rcases o3 with ⟨o3, o4⟩ | ⟨o3, o4⟩
  ·have hI' : SnI (E5 E sp tn off B0 Dy (frame b)).2.1 b true := by rw [SnI, if_pos rfl]; exact ⟨hbl, o4⟩
   rcases ih (i + 1) _ _ (E5 E sp tn off B0 Dy (frame b)).2.2.2 b b true (by omega) (by omega) o1 o2 hI' with ⟨E', sp', off', hr⟩ | ⟨E', sp', off', la', mi', av', g1, g2, hr⟩
   ·rw [← nx (by omega)] at hr
    exact .inl ⟨_, _, _, Ow hc hx hb S (by simp [o3]) hr⟩
   ·rw [← nx (by omega)] at hr
    exact .inr ⟨_, _, _, _, _, _, g1, g2, Ow hc hx hb S (by simp [o3]) hr⟩
  ·refine .inr ⟨_, _, _, _, _, _, o1, ?_, Vq hc hx hb S (by simpa using o3)⟩
   unfold SnI at hI ⊢
   rw [o4]; exact hI
theorem lawSn {n m : Int} {l : List (List UInt8)} {ks : List B1} (hl : l.length ≤ 100000000000000) (hk : ks.length ≤ 100000000000000) (hn : n ≤ 9223372036854775807) :
  Runs lq 5 [(.p (.sl (ef l))), .p (.int .i64 n), .p (.int .i64 m), (.p (.sl (A4 ks)))] [] (.p (.bool true), []) := by
 have hoke0 : OKE [] := ⟨fun e he => (by cases he), List.nodup_nil⟩
 have st := stR (E := []) (sp := -1) (tn := 0) (off := false) (n := n) (m := m)
 have hb : (K0 [] (-1) 0 false n m).2.1 ≤ 9223372036854775807 ∧ 0 ≤ (K0 [] (-1) 0 false n m).2.2 := by
  unfold K0
  rw [if_neg (by simp)]
  split
  ·exact ⟨by simp, by simp⟩
  ·split
   ·exact ⟨by simp, by simp⟩
   ·rename_i h; simp only [decide_eq_true_eq] at h; exact ⟨hn, by simp only; omega⟩
 have kp : ¬ decide (((List.length (A4 ks) : Nat) : Int) > 50) = true → Runs lq 14 [(.p (.sl (A4 ks)))] [] ((.p (.bool (Bv ks))), []) := fun h => kpR (by rw [Hk] at h; simp at h; omega)
 rcases Yd (l := l) (ks := ks) hl hb.2 l.length 0 [] _ false [] [] false rfl (Nat.zero_le _) hoke0 hb.1 rfl with ⟨E', sp', off', hr⟩ | ⟨E', sp', off', la', mi', av', g1, g2, hr⟩
 ·have h := lawS (rt := true) (fd := false) (X := []) (la := []) (mi := []) (av := false) nwR lvR (fun _ h => kp (by simp [h])) (fun _ _ _ => st) (fun _ _ _ _ => hr) (fun _ _ _ h => by cases h) (fun _ _ _ h => by cases h) (fun _ _ _ h => by cases h) (fun _ _ _ h => by cases h)
  split at h
  ·exact h
  split at h
  ·exact h
  split at h
  ·exact h
  ·exact h
 ·have hcr := crR (sp := sp') (tn := (K0 [] (-1) 0 false n m).2.2) (off := off') (l := ks) g1
  have hokc := Vv g1 ks
  cases av'
  ·have hN : A6 Dy E' = none := g2
   have h := lawS (rt := false) (fd := false) (X := []) (la := la') (mi := mi') (av := false) nwR lvR (fun _ h => kp (by simp [h])) (fun _ _ _ => st) (fun _ _ _ h => by cases h) (fun _ _ _ _ => hr) (fun _ _ hkb _ => by rw [if_pos hkb] at hcr; exact hcr) (fun _ _ _ _ h => by cases h) (fun _ _ _ _ _ => ldN (Tl hN ks))
   split at h
   ·exact h
   split at h
   ·exact h
   split at h
   ·exact h
   ·exact h
  ·have hY : la'.length ≤ 65536 ∧ A6 Dy E' = some (frame la', ((frame la').length : Int)) := g2
   have h := lawS (rt := false) (fd := true) (X := la') (la := la') (mi := mi') (av := true) nwR lvR (fun _ h => kp (by simp [h])) (fun _ _ _ => st) (fun _ _ _ h => by cases h) (fun _ _ _ _ => hr) (fun _ _ hkb _ => by rw [if_pos hkb] at hcr; exact hcr) (fun _ _ _ _ _ => ldR hokc hY.1 (R2 g1 hY.2 ks)) (fun _ _ _ _ h => by cases h)
   split at h
   ·exact h
   split at h
   ·exact h
   split at h
   ·rw [if_neg (by simp), if_pos rfl, if_pos (by simp), if_pos rfl] at h
    exact h
   ·exact h
end Go.Proofs.Ythmjaeflpgcmdaa

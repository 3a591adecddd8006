import Derived.Test.YtgdbbmckmphnhaaLsKeepW
import Derived.Test.YtgdbbmckmphnhaaLsG8
set_option linter.unusedVariables false
set_option linter.unusedSimpArgs false
set_option maxRecDepth 100000
namespace Go.Proofs.Ytgdbbmckmphnhaa
open Go Go.LS
theorem keepLoop {b : List UInt8} {ops : List OpT} {l : List KeepT} (hl : ops.length ≤ 100000000000000) (ho : ∀ o ∈ ops, o.2.2.2.2.1 ≤ 9223372036854775807) : ∀ (k i : Nat) (d : DSt), ops.length - i = k → i ≤ ops.length → DInv b d →
    ∃ d' : DSt, DInv b d' ∧ LoopN lq 0 (loopNo lf3 0) (tl 0 123 [(0, (.p (.sl (bs b)))), (1, (.p (.sl (rowsO ops)))), (2, (.p (.sl (rowsK l)))), (7, (.ptr 0 0 0)), (8, (.p (.int .i64 (i : Int))))]) (dS d.1 d.2.1 d.2.2.1 d.2.2.2) ((.exit 0), (tl 0 123 [(0, (.p (.sl (bs b)))), (2, (.p (.sl (rowsK l)))), (7, (.ptr 0 0 0))]), dS d'.1 d'.2.1 d'.2.2.1 d'.2.2.2) := by
  intro k
  induction k with
  | zero =>
    intro i d hk hi hd
    obtain rfl : i = ops.length := by omega
    exact ⟨d, hd, keepR_n (by rw [rowsO_len]; simp)⟩
  | succ k ih =>
    intro i d hk hi hd
    have hlt : i < ops.length := by omega
    have hc : (decide ((i : Int) < ((List.length (rowsO ops) : Nat) : Int))) = true := by rw [rowsO_len]; simp; omega
    obtain ⟨⟨ok, on, ot, ob, oN, oM, oks⟩, hx⟩ : ∃ x, ops[i]? = some x := ⟨ops[i], by simp [hlt]⟩
    have hN := ho _ (List.mem_of_getElem? hx)
    obtain ⟨E, sp, tn, off⟩ := d
    by_cases h40 : (decide ((i : Int) < 40)) = true
    case neg => exact ⟨_, hd, keepR_yn hc (by simpa using h40)⟩
    obtain ⟨d', hd', hr⟩ := ih (i + 1) (opStepF (E, sp, tn, off) (ok, on, ot, ob, oN, oM, oks)) (by omega) (by omega) (opStepF_inv hd _ hN)
    refine ⟨d', hd', ?_⟩
    rw [← nx (by omega)] at hr
    have hs1 : sp ≤ 9223372036854775807 := hd.s1
    have ht0 : 0 ≤ tn := hd.t0
    have hE : OKE E := hd.oke
    cases hsm : smallO ob oks
    · rw [show opStepF (E, sp, tn, off) (ok, on, ot, ob, oN, oM, oks) = (E, sp, tn, off) by simp [opStepF, hsm]] at hr
      exact keepR_yyn ok oN oM on ot ob oks hc h40 hx smR hsm hr
    · have hX : ob.length ≤ 10000000000 := by simp [smallO] at hsm; omega
      cases h1 : (ok == 1)
      · cases h2 : (ok == 2)
        · cases h7 : (ok == 7)
          · rw [show opStepF (E, sp, tn, off) (ok, on, ot, ob, oN, oM, oks) = (E, sp, tn, off) by simp only [opStepF, hsm, h1, h2, h7]; rfl] at hr
            exact keepR_yyynnn ok oN oM on ot ob oks hc h40 hx smR hsm h1 h2 h7 hr
          · rw [show opStepF (E, sp, tn, off) (ok, on, ot, ob, oN, oM, oks) = (E, (stopF E sp tn off oN oM).2.1, (stopF E sp tn off oN oM).2.2, off) by simp only [opStepF, hsm, h1, h2, h7]; rfl] at hr
            exact keepR_yyynny ok oN oM on ot ob oks hc h40 hx smR hsm h1 h2 h7 stR hr
        · rw [show opStepF (E, sp, tn, off) (ok, on, ot, ob, oN, oM, oks) = ((syncF E sp tn off on).2.1, (syncF E sp tn off on).2.2.1, tn, (syncF E sp tn off on).2.2.2) by simp only [opStepF, hsm, h1, h2]; rfl] at hr
          exact keepR_yyyny ok oN oM on ot ob oks hc h40 hx smR hsm h1 h2 (syR hs1) hr
      · rw [show opStepF (E, sp, tn, off) (ok, on, ot, ob, oN, oM, oks) = ((appF E sp tn off on ob).2.1, (appF E sp tn off on ob).2.2.1, tn, (appF E sp tn off on ob).2.2.2) by simp only [opStepF, hsm, h1]; rfl] at hr
        exact keepR_yyyy ok oN oM on ot ob oks hc h40 hx smR hsm h1 (appR hE hs1 ht0 hX) hr
theorem lawKeep {b : List UInt8} {ops : List OpT} {l : List KeepT} (hl : ops.length ≤ 100000000000000) (hk : l.length ≤ 100000000000000) (ho : ∀ o ∈ ops, o.2.2.2.2.1 ≤ 9223372036854775807) :
    Runs lq 3 [(.p (.sl (bs b))), (.p (.sl (rowsO ops))), (.p (.sl (rowsK l)))] [] (.p (.bool true), []) := by
  by_cases hb : b.length ≤ 2000
  case neg =>
    have h := lawK (E := []) (sp := 0) (tn := 0) (off := false) (b := b) (ops := ops) (l := l) nwR (fun _ => lvR) (fun h => absurd h (by rw [bs_len]; simp; omega)) (fun h => absurd h (by rw [bs_len]; simp; omega)) (fun h => absurd h (by rw [bs_len]; simp; omega)) (fun h => absurd h (by rw [bs_len]; simp; omega)) (fun h => absurd h (by rw [bs_len]; simp; omega)) (fun h => absurd h (by rw [bs_len]; simp; omega)) (fun h => absurd h (by rw [bs_len]; simp; omega)) (fun h => absurd h (by rw [bs_len]; simp; omega)) (fun h => absurd h (by rw [bs_len]; simp; omega)) (fun h => absurd h (by rw [bs_len]; simp; omega))
    rw [if_pos (by rw [bs_len]; simp; omega)] at h
    exact h
  obtain ⟨e1, e2, e3, e4, hd⟩ := first_inv hb
  have hoke0 : OKE [] := ⟨fun e he => (by cases he), List.nodup_nil⟩
  have hoke1 : OKE [([102], b, 0)] := ⟨fun e he => (by simp only [List.mem_singleton] at he; subst he; exact ⟨by simp, by simp, by simp; omega⟩), by simp⟩
  have ha := appR (E := []) (sp := -1) (tn := 0) (off := false) (s := [102]) (X := b) hoke0 (by omega) (by omega) (by omega)
  rw [e1, e2] at ha
  have hs := syR (E := [([102], b, 0)]) (sp := -1) (tn := 0) (off := false) (s := [102]) (by omega)
  rw [e3, e4] at hs
  obtain ⟨d', hd', hlp⟩ := keepLoop (b := b) (l := l) hl ho ops.length 0 _ rfl (Nat.zero_le _) hd
  obtain ⟨Z, hz, hh⟩ := crash_has hd' l
  have hoke : OKE d'.1 := hd'.oke
  have hcr := crR (sp := d'.2.1) (tn := d'.2.2.1) (off := d'.2.2.2) (l := l) hoke
  have hokc : OKE (crashE l d'.1) := by
    have hkk : kOk (kfold l []) := kfold_ok (by intro x hx; cases hx)
    refine ⟨fun e he => ?_, ?_⟩
    · obtain ⟨x, hx, rfl⟩ := List.mem_map.1 he
      obtain ⟨o1, o2, o3⟩ := hoke.1 x hx
      obtain ⟨c1, c2⟩ := cutN_ok (ks := kfold l []) (s := x.1) (B := bs x.2.1) (u := x.2.2) hkk o1 (by rw [bs_len]; exact o2)
      rw [bs_len] at c2
      simp only [cutE, List.length_take]
      exact ⟨by omega, by omega, by omega⟩
    · have : (crashE l d'.1).map (·.1) = d'.1.map (·.1) := by
        unfold crashE; rw [List.map_map]; rfl
      rw [this]; exact hoke.2
  have h := lawK (E := d'.1) (sp := d'.2.1) (tn := d'.2.2.1) (off := d'.2.2.2) (b := b) (ops := ops) (l := l) nwR (fun _ => lvR) (fun _ => lvR) (fun _ => ha) (fun _ => hs) (fun _ => hlp) (fun _ _ hkb => by rw [if_pos hkb] at hcr; exact hcr) (fun _ _ _ => rdR hokc rfl hh)
    (fun _ _ _ _ => by omega) (fun _ _ _ _ => by rw [hz, bs_len]; simp only [List.length_append]; omega) (fun _ _ hkb => by rw [if_neg (by rw [hkb]; simp)] at hcr; exact hcr) (fun _ h50 _ => kpR (by rw [rowsK_len] at h50; simp at h50; omega))
  rw [if_neg (by rw [bs_len]; simp; omega)] at h
  by_cases h50 : (decide (((List.length (rowsK l) : Nat) : Int) > 50)) = true
  · rw [if_pos h50] at h; exact h
  rw [if_neg h50] at h
  by_cases hkb : keepsB l = true
  · rw [if_pos hkb, if_pos (by rw [hz, bs_len, bs_len]; simp only [List.length_append, decide_eq_true_eq]; omega), hz, bs_len, Int.toNat_natCast, List.take_left, beq_self_eq_true] at h
    exact h
  · rw [if_neg hkb, show keepsB l = false by simpa using hkb] at h
    exact h
end Go.Proofs.Ytgdbbmckmphnhaa

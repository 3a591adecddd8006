import Derived.Test.YtegboccilfofmaaGreatLsSpcW
set_option linter.unusedVariables false
set_option maxRecDepth 100000
set_option linter.unusedSimpArgs false
namespace Go.Proofs.YtegboccilfofmaaGreat
open Go Go.LS
theorem sNone (v : Val) (hok : okV v) : Runs lp 47 [Eo v] [] (.p (.bool (Bt v)), []) := by
 obtain ⟨k, n, s, is, ns⟩ := v
 obtain ⟨_, hn, hs, hil, hnl, hns, his⟩ := Dp hok
 refine ifE sNone0 ?_
 rw [Au, Aq, A8 (by omega) (by omega)]
 have e : (((is.length : Nat) : Int) + ((ns.length : Nat) : Int) == 0) = decide (is.length + ns.length = 0) := by
  by_cases h : is.length + ns.length = 0
  ·rw [decide_eq_true h]; simp; omega
  ·rw [decide_eq_false h]; simp; omega
 rw [e]
 unfold Bt
 by_cases h1 : k = 0 <;> by_cases h2 : n = 0 <;> by_cases h3 : s = [] <;> simp [h1, h2, h3]
theorem rNone (v : Val) (hok : okV v) : Runs lp 61 [Eo v] [] (.p (.bool (Bt v)), []) := by
 obtain ⟨k, n, s, is, ns⟩ := v
 refine ifE (rNone0 (Yd _ hok (.mk 0 0 [] [] []) (by rw [okV, Ls]; simp))) ?_
 have e : E5 (.mk k n s is ns) (.mk 0 0 [] [] []) = Bt (.mk k n s is ns) := by
  unfold Bt
  cases is <;> cases ns <;> simp [E5, Do]
 rw [e]
def okO (o : OpS) : Prop := (∀ x ∈ o.p, x.length ≤ 140737488351232) ∧ o.p.length ≤ 140737488355328 ∧ okV o.v ∧ Ax o.v ≤ 1000000 ∧ (∀ x ∈ o.t, x.length ≤ 140737488351232) ∧ o.t.length ≤ 140737488355328
theorem Od {ok vk vn : Int} {vs : List UInt8} {vi : List Val} {ps vns ts : List (List UInt8)} : ((if (Bl ps) = true then (if (ok == 2) = true then (if (Bt (Val.mk vk vn vs vi vns)) = true then (((.p (.bool (((List.length (Ab ts) : Nat) : Int) == 0))), [])) else ((.p (.bool false), []))) else (if (ok == 6) = true then (if (Bt (Val.mk vk vn vs vi vns)) = true then (((.p (.bool (Bl ts))), [])) else ((.p (.bool false), []))) else (if (ok == 3) = true then (if (vk == 3) = true then (if ((Av (Val.mk vk vn vs vi vns)) == 0) = true then (((.p (.bool (((List.length (Ab ts) : Nat) : Int) == 0))), [])) else ((.p (.bool false), []))) else ((.p (.bool false), []))) else (if (ok == 1) = true then (if ((Av (Val.mk vk vn vs vi vns)) == 0) = true then (((.p (.bool (((List.length (Ab ts) : Nat) : Int) == 0))), [])) else ((.p (.bool false), []))) else (if (ok == 4) = true then (if ((Av (Val.mk vk vn vs vi vns)) == 0) = true then (((.p (.bool (((List.length (Ab ts) : Nat) : Int) == 0))), [])) else ((.p (.bool false), []))) else (if (ok == 5) = true then (if ((Av (Val.mk vk vn vs vi vns)) == 0) = true then (((.p (.bool (((List.length (Ab ts) : Nat) : Int) == 0))), [])) else ((.p (.bool false), []))) else (if (ok == 7) = true then (if ((Av (Val.mk vk vn vs vi vns)) == 0) = true then (((.p (.bool (((List.length (Ab ts) : Nat) : Int) == 0))), [])) else ((.p (.bool false), []))) else (if (ok == 8) = true then (if ((Av (Val.mk vk vn vs vi vns)) == 0) = true then (((.p (.bool (((List.length (Ab ts) : Nat) : Int) == 0))), [])) else ((.p (.bool false), []))) else ((.p (.bool false), [])))))))))) else ((.p (.bool false), [])))) = ((LV.p (PV.bool (B0 ⟨ok, ps, .mk vk vn vs vi vns, ts⟩)), []) : LV × List LObj) := by
 have e : (((List.length (Ab ts) : Nat) : Int) == 0) = decide (ts.length = 0) := by
  rw [Aq]; by_cases h : ts.length = 0
  ·rw [decide_eq_true h, h]; rfl
  ·rw [decide_eq_false h]; exact beq_eq_false_iff_ne.2 (by omega)
 rw [e]
 unfold B0 K8
 cases Bl ps with
 | false => simp
 | true =>
  generalize Bt (.mk vk vn vs vi vns) = nv
  generalize (Av (.mk vk vn vs vi vns) == 0) = cv
  by_cases h2 : ok = 2
  ·subst h2; cases nv <;> simp
  ·by_cases h6 : ok = 6
   ·subst h6; cases nv <;> simp
   ·by_cases h3 : ok = 3
    ·subst h3; by_cases hk : vk = 3 <;> cases cv <;> simp [hk]
    ·by_cases h1 : ok = 1
     ·subst h1; cases cv <;> simp
     ·by_cases h4 : ok = 4
      ·subst h4; cases cv <;> simp
      ·by_cases h5 : ok = 5
       ·subst h5; cases cv <;> simp
       ·by_cases h7 : ok = 7
        ·subst h7; cases cv <;> simp
        ·by_cases h8 : ok = 8
         ·subst h8; cases cv <;> simp
         ·simp [h1, h2, h3, h4, h5, h6, h7, h8]
theorem sMay (o : OpS) (h : okO o) : Runs lp 21 [.agg ((Ll o).map .p)] [] (.p (.bool (B0 o)), []) := by
 obtain ⟨ok, ps, ⟨vk, vn, vs, vi, vns⟩, ts⟩ := o
 obtain ⟨a1, a2, a3, a4, a5, a6⟩ := h
 have hp := pMay a2
 have ht := pMay a6
 have hn := sNone _ a3
 have hc := Sr _ a3 a4
 exact ifE (sMay0 hp (fun _ _ => hn) (fun _ _ _ => hn) (fun _ _ _ _ => ht) (fun _ _ _ _ _ => hc) (fun _ _ _ _ _ => hc) (fun _ _ _ _ _ _ => hc) (fun _ _ _ _ _ _ _ => hc) (fun _ _ _ _ _ _ _ _ => hc) (fun _ _ _ _ _ _ _ _ _ => hc)) Od
theorem Yl (o : OpS) (h : okO o) : Runs lp 62 [.agg ((Ll o).map .p)] [] (.p (.bool (B0 o)), []) := by
 obtain ⟨ok, ps, ⟨vk, vn, vs, vi, vns⟩, ts⟩ := o
 obtain ⟨a1, a2, a3, a4, a5, a6⟩ := h
 have hp := rpMay a2 (fun x hx => by have := a1 x hx; omega)
 have ht := rpMay a6 (fun x hx => by have := a5 x hx; omega)
 have hn := rNone _ a3
 have hc := Ss _ a3 a4
 exact ifE (rOpMay0 hp (fun _ _ => hn) (fun _ _ _ => hn) (fun _ _ _ _ => ht) (fun _ _ _ _ _ => hc) (fun _ _ _ _ _ => hc) (fun _ _ _ _ _ _ => hc) (fun _ _ _ _ _ _ _ => hc) (fun _ _ _ _ _ _ _ _ => hc) (fun _ _ _ _ _ _ _ _ _ => hc)) Od
end Go.Proofs.YtegboccilfofmaaGreat

import Derived.Test.YtmbjojnldbeicaaLsImgW
set_option linter.unusedVariables false
set_option linter.unusedSimpArgs false
set_option maxRecDepth 100000
namespace Go.Proofs.Ytmbjojnldbeicaa
open Go Go.LS
theorem encV_fx (v : Val) : encV v = .agg [.p (.int .i64 (kV v)), .p (.int .i64 (nV v)), .p (.str (sV v)), .p (.sl (rowsV (iV v))), .p (.sl (rowsN (mV v)))] := by obtain ⟨_, _, _, _, _⟩ := v; rfl
abbrev imO (kp b t : Int) : LObj := .row [[.p (.int .i64 kp), .rs 1 0 (Int.toNat kp), .p (.int .i64 b), .p (.int .i64 t)]]
def okR (kp : Int) (R : List (Option Val)) : Prop := R.length = Int.toNat kp ∧ ∀ v, some v ∈ R → okV v
theorem okR_put {kp t : Int} {R : List (Option Val)} {x : Option Val} (h : okR kp R) (hx : ∀ v, x = some v → okV v) : okR kp (putR kp t R x) := by
  unfold putR
  split
  · refine ⟨by rw [List.length_set]; exact h.1, fun v hv => ?_⟩
    rcases List.mem_or_eq_of_mem_set hv with hv | hv
    · exact h.2 v hv
    · exact hx v hv.symm
  · exact h
theorem okR_new {kp : Int} : okR kp (List.replicate (Int.toNat kp) none) := ⟨by simp, fun v hv => by have := List.eq_of_mem_replicate hv; cases this⟩
theorem tmod_place {i kp : Int} (hi : 0 ≤ i) (hk : 0 < kp) : Int.tmod i kp = ((Int.toNat (Int.tmod i kp) : Nat) : Int) ∧ Int.toNat (Int.tmod i kp) < Int.toNat kp := by
  rw [Int.tmod_eq_emod_of_nonneg hi]
  have h1 := Int.emod_nonneg i (show kp ≠ 0 by omega)
  have h2 := Int.emod_lt_of_pos i hk
  omega
theorem win {x m : Int} : Runs lp 30 [.p (.int .i64 x), .p (.int .i64 m)] [] (.p (.bool (wI x m)), []) := by
  refine ifE win0 ?_
  unfold wI
  by_cases h : x ≥ 0 <;> simp [h]
theorem newR {kp b : Int} : Runs lp 8 [.p (.int .i64 kp), .p (.int .i64 b)] [] (if wI kp 64 = true then (if wI b 1099511627776 = true then (.tup [.ptr 0 0 0, .p (.int .i64 0)], [imO kp b b, .row (ringS (List.replicate (Int.toNat kp) none))]) else (.tup [.p .nilp, .p (.int .i64 1)], [])) else (.tup [.p .nilp, .p (.int .i64 1)], [])) :=
  new0 (win) (fun hA => win) (fun hA _ => by have := hA; simp [wI] at this; omega) (fun hA _ => by have := hA; simp [wI] at this; omega)
theorem nNote {kp b t : Int} {R : List (Option Val)} (x : Option Val) (hk : kp ≤ 64) (ht : 0 ≤ t ∧ t ≤ 1000000000000000) (hR : okR kp R) :
    Runs lp 32 [.ptr 0 0 0, .agg (ringE x)] [imO kp b t, .row (ringS R)] (.tup [], [imO kp b (t + 1), .row (ringS (putR kp t R x))]) := by
  have hw : IntKind.wrap .i64 (t + 1) = t + 1 := wrap_i64 (by omega) (by omega)
  have hp : decide (kp > 0) = true → Int.tmod (IntKind.wrap .i64 (t + 1)) kp = ((Int.toNat (Int.tmod (IntKind.wrap .i64 (t + 1)) kp) : Nat) : Int) ∧ Int.toNat (Int.tmod (IntKind.wrap .i64 (t + 1)) kp) < Int.toNat kp := fun h => by
    rw [hw]; exact tmod_place (by omega) (of_decide_eq_true h)
  cases x with
  | none =>
    refine ifE (noteN (x := 0) (fun hP => by have := of_decide_eq_true hP; omega) (fun hP => (hp hP).1) (fun hP => (hp hP).2) (fun hP => by rw [hR.1]; exact (hp hP).2)) ?_
    rw [hw]; unfold putR
    by_cases h : kp > 0 <;> simp [h]
  | some v =>
    obtain ⟨k, n, s, is, ns⟩ := v
    refine ifE (noteV (x := 0) (fun hP => by have := of_decide_eq_true hP; omega) (fun hP => (hp hP).1) (fun hP => (hp hP).2) (fun hP => by rw [hR.1]; exact (hp hP).2)) ?_
    rw [hw]; unfold putR
    by_cases h : kp > 0 <;> simp [h]
theorem noteYes {kp b t : Int} {R : List (Option Val)} {v : Val} (hv : okV v) (hd : depthV v ≤ 1000000) (hk : kp ≤ 64) (ht : 0 ≤ t ∧ t ≤ 1000000000000000) (hR : okR kp R) :
    Runs lp 13 [.ptr 0 0 0, encV v, .p (.bool true)] [imO kp b t, .row (ringS R)] (if (checkV v == 0) = true then (.p (.int .i64 0), [imO kp b (t + 1), .row (ringS (putR kp t R (some v)))]) else (.p (.int .i64 20), [imO kp b t, .row (ringS R)])) := by
  have hc := vCheck v hv hd
  have hcl := vClone v hv
  have hn := nNote (b := b) (some v) hk ht hR
  obtain ⟨k, n, s, is, ns⟩ := v
  exact NoteV0 (hc) (fun _ => hcl) (fun _ => hn)
theorem noteNo {kp b t : Int} {R : List (Option Val)} {v : Val} (hk : kp ≤ 64) (ht : 0 ≤ t ∧ t ≤ 1000000000000000) (hR : okR kp R) :
    Runs lp 13 [.ptr 0 0 0, encV v, .p (.bool false)] [imO kp b t, .row (ringS R)] (.p (.int .i64 0), [imO kp b (t + 1), .row (ringS (putR kp t R none))]) := by
  have hn := nNote (b := b) none hk ht hR
  obtain ⟨k, n, s, is, ns⟩ := v
  exact NoteN0 (hn)
theorem leastR {kp b t : Int} {R : List (Option Val)} (hk : 0 ≤ kp ∧ kp ≤ 64) (hb : 0 ≤ b ∧ b ≤ 1000000000000000) (ht : 0 ≤ t ∧ t ≤ 1000000000000000) :
    Runs lp 37 [.ptr 0 0 0] [imO kp b t, .row (ringS R)] (.p (.int .i64 (leastI kp b t)), [imO kp b t, .row (ringS R)]) := by
  have := least0 (kp := kp) (b := b) (t := t) (R := R)
  rw [wrap_i64 (n := t - kp) (by omega) (by omega), wrap_i64 (by split <;> omega) (by split <;> omega)] at this
  exact this
end Go.Proofs.Ytmbjojnldbeicaa

import Derived.Test.YtmbjojnldbeicaaLsIm3W
set_option linter.unusedVariables false
set_option linter.unusedSimpArgs false
set_option maxRecDepth 100000
namespace Go.Proofs.Ytmbjojnldbeicaa
open Go Go.LS
abbrev imZ (b t : Int) : LObj := .row [[.p (.int .i64 0), .tight [], .p (.int .i64 b), .p (.int .i64 t)]]
def mS (f : Bool) (kp b t : Int) (R : List (Option Val)) : List LObj := match f with
 | true => [imO kp b t, .row (Ah R)]
 | false => [imZ b t]
def xS (o : Nat) (kp xb : Int) : List (Option Val) → List LObj
 | [] => [.row [[.p (.int .i64 kp), .p (.int .i64 xb), .tight []]]]
 | a :: r => [.row [[.p (.int .i64 kp), .p (.int .i64 xb), .sl (Ac (a :: r)) o (List.length (Ac (a :: r)))]], .spare 6 (List.length (Ac (a :: r)))]
structure Sz (kp xb : Int) (L : List (Option Val)) : Prop where
 k0 : 0 ≤ kp
 k1 : kp ≤ 64
 b0 : 0 ≤ xb
 b1 : xb ≤ 500000000000000
 l1 : L.length ≤ 1000000
 oks : ∀ v, some v ∈ L → okV v
theorem topW {kp xb : Int} {L : List (Option Val)} (h : Sz kp xb L) : IntKind.wrap .i64 (xb + ((List.length (Ac L) : Nat) : Int)) = Bf xb L := by
 obtain ⟨a, b, c, d, e, _⟩ := h
 rw [Kf, A6 (by omega) (by omega)]; rfl
theorem Fu {kp xb : Int} {L : List (Option Val)} (h : Sz kp xb L) : 0 ≤ Bf xb L ∧ Bf xb L ≤ 1000000000000000 := by
 obtain ⟨a, b, c, d, e, _⟩ := h
 unfold Bf; omega
theorem K3 {kp xb : Int} {L : List (Option Val)} (h : Sz kp xb L) : Runs lp 12 [.ptr 0 0 0] (xS 1 kp xb L) (.p (.int .i64 (Bf xb L)), xS 1 kp xb L) := by
 have hw := topW h
 cases L with
 | nil => exact ifE xTop0 (by rw [show (xb + 0 : Int) = xb + ((List.length (Ac []) : Nat) : Int) from rfl, hw]; rfl)
 | cons a r => exact ifE xTop1 (by rw [hw]; rfl)
theorem xKnR {kp xb i : Int} {L : List (Option Val)} (h : Sz kp xb L) : Runs lp 44 [.ptr 0 0 0, .p (.int .i64 i)] (xS 1 kp xb L) (.p (.bool (Cx kp xb L i)), xS 1 kp xb L) := by
 have ht := K3 h
 obtain ⟨b0, b1⟩ := Fu h
 have hk := h.k1
 have hk0 := h.k0
 have hw : IntKind.wrap .i64 (Bf xb L - kp) = Bf xb L - kp := A6 (by omega) (by omega)
 have fin : ∀ st : List LObj, (if (decide (i > xb)) = true then (if (decide (i ≤ Bf xb L)) = true then ((LV.p (.bool (decide (i > IntKind.wrap .i64 (Bf xb L - kp)))), st) : LV × List LObj) else (.p (.bool false), st)) else (.p (.bool false), st)) = (.p (.bool (Cx kp xb L i)), st) := fun st => by
  rw [hw]; unfold Cx
  cases decide (i > xb) <;> cases decide (i ≤ Bf xb L) <;> rfl
 cases L with
 | nil => exact ifE (xKn0 (fun _ => ht)) (fin _)
 | cons a r => exact ifE (xKn1 (fun _ => ht)) (fin _)
theorem T6 {kp xb i : Int} {L : List (Option Val)} (h : Sz kp xb L) :
  Runs lp 42 [.ptr 0 0 0, .p (.int .i64 i)] (xS 1 kp xb L) (.tup [fx (Ax kp xb L i).1, .p (.int .i64 (Ax kp xb L i).2.1), .p (.int .i64 (Ax kp xb L i).2.2)], xS 1 kp xb L) := by
 have ht := K3 h
 have hk := xKnR (i := i) h
 obtain ⟨b0, b1⟩ := Fu h
 cases L with
 | nil =>
  have hn : decide (i > Bf xb ([] : List (Option Val))) = false → Cx kp xb ([] : List (Option Val)) i = false := fun a => by
   have a := of_decide_eq_false a
   simp [Bf] at a
   unfold Cx Bf; simp; intro _ _; omega
  refine ifE (xGet0 (fun _ => ht) (fun _ b => hn b) (fun _ _ => hk)) ?_
  unfold Ax
  by_cases h1 : i < 1
  ·simp [h1, Au, kV, nV, sV, iV, mV, Ad, Af]; rfl
  ·by_cases h2 : i > Bf xb ([] : List (Option Val))
   ·simp [h1, h2, Au, kV, nV, sV, iV, mV, Ad, Af]; rfl
   ·have h12 : ¬ (i < 1 ∨ i > Bf xb ([] : List (Option Val))) := by omega
    rw [if_neg h12, if_pos (hn (decide_eq_false h2)), decide_eq_false h1, decide_eq_false h2]; rfl
 | cons a r =>
  have hb1 := h.b1; have hb0 := h.b0; have hl := h.l1
  have key : decide (i < 1) = false → decide (i > Bf xb (a :: r)) = false → Cx kp xb (a :: r) i = true → IntKind.wrap .i64 (IntKind.wrap .i64 (i - xb) - 1) = ((Int.toNat (i - xb - 1) : Nat) : Int) ∧ Int.toNat (i - xb - 1) < (a :: r).length := fun x y z => by
   have x := of_decide_eq_false x; have y := of_decide_eq_false y
   unfold Cx at z
   simp only [Bool.and_eq_true, decide_eq_true_eq] at z
   obtain ⟨z1, z2, z3⟩ := z
   rw [A6 (n := i - xb) (by omega) (by omega), A6 (by omega) (by omega)]
   unfold Bf at z2
   omega
  refine ifE (xGet1 (L := a :: r) (fun _ => ht) (fun _ _ => hk) (fun x y z => (key x y z).1) (fun x y z _ => (key x y z).2) (fun x y z _ => (key x y z).2)) ?_
  unfold Ax
  by_cases h1 : i < 1
  ·simp [h1, Au, kV, nV, sV, iV, mV, Ad, Af]; rfl
  ·by_cases h2 : i > Bf xb (a :: r)
   ·simp [h1, h2, Au, kV, nV, sV, iV, mV, Ad, Af]; rfl
   ·have h12 : ¬ (i < 1 ∨ i > Bf xb (a :: r)) := by omega
    rw [if_neg h12, decide_eq_false h1, decide_eq_false h2]
    cases h3 : Cx kp xb (a :: r) i with
    | false => rfl
    | true =>
     cases hq : Ao (a :: r) (Int.toNat (i - xb - 1)) with
     | none => rfl
     | some v => rfl
end Go.Proofs.Ytmbjojnldbeicaa

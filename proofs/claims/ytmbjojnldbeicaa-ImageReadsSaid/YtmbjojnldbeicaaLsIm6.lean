import Derived.Test.YtmbjojnldbeicaaLsIm5
set_option linter.unusedVariables false
set_option linter.unusedSimpArgs false
set_option maxRecDepth 100000
namespace Go.Proofs.Ytmbjojnldbeicaa
open Go Go.LS
theorem lkAL {kp b t xb : Int} {R : List (Option Val)} {a : Option Val} {r : List (Option Val)} {i : Int} (h : Rel kp b t R xb (a :: r)) : ∀ (n : Nat) (m : Int), m + n = Bf xb (a :: r) + 2 → -100 ≤ m →
  LoopN lp 4 (Ag J0 0) (tl 0 90 [(0, (.ptr 0 0 0)), (1, (.ptr 2 0 0)), (2, .p (.int .i64 i)), (7, .p (.int .i64 m))]) (mS true kp b t R ++ xS 3 kp xb (a :: r)) (.exit 0, (tl 0 90 [(0, (.ptr 0 0 0)), (1, (.ptr 2 0 0)), (2, .p (.int .i64 i))]), (mS true kp b t R ++ xS 3 kp xb (a :: r))) := by
 obtain ⟨n1, n2, n3, n4, n5⟩ := h.nums
 have tb := Fu h.bnd
 have hw : IntKind.wrap .i64 (Bf xb (a :: r) + 1) = Bf xb (a :: r) + 1 := A6 (by omega) (by omega)
 have ht := K3 h.bnd
 intro n
 induction n with
 | zero => intro m h1 h2; exact lkAR_n ht (by rw [hw]; exact decide_eq_false (by omega))
 | succ n ih =>
  intro m h1 h2
  have hr := ih (m + 1) (by omega) (by omega)
  have g := h.get m
  have g1 := getR n1 ⟨n2.1, n2.2.2⟩ ⟨n4, n5⟩ h.okr (i := m)
  have g2 := T6 (i := m) h.bnd
  have sm := T3 _ _ (Ea h.bnd m) (Ea h.bnd m)
  rw [g] at g1
  refine Vl (L := a :: r) ht (by rw [hw]; exact decide_eq_true (by omega)) (by rw [g]; exact g1) g2 (by rw [g]; exact sm) (by rw [g]; exact F4 _) (by rw [g]; simp) (by rw [g]; simp) ?_
  rw [A6 (by omega) (by omega)]; exact hr
theorem lkAC {kp b t xb : Int} {R : List (Option Val)} {a : Option Val} {r : List (Option Val)} {i : Int} (h : Rel kp b t R xb (a :: r)) :
  Runs lp 20 [.ptr 0 0 0, .ptr 2 0 0, .p (.int .i64 i)] (mS true kp b t R ++ xS 3 kp xb (a :: r)) (.p (.bool true), (mS true kp b t R ++ xS 3 kp xb (a :: r))) := by
 obtain ⟨n1, n2, n3, n4, n5⟩ := h.nums
 have tb := Fu h.bnd
 have ht := K3 h.bnd
 have g := h.get i
 have g1 := getR n1 ⟨n2.1, n2.2.2⟩ ⟨n4, n5⟩ h.okr (i := i)
 have g2 := T6 (i := i) h.bnd
 have sm := T3 _ _ (Ea h.bnd i) (Ea h.bnd i)
 rw [g] at g1
 have hl := lkAL (i := i) h 72 (Bf xb (a :: r) - 70) (by omega) (by omega)
 have hw : IntKind.wrap .i64 (Bf xb (a :: r) - 70) = Bf xb (a :: r) - 70 := A6 (by omega) (by omega)
 refine ifE (lkA (L := a :: r) topR ht (fun _ => by rw [hw]; exact hl) (fun _ => by rw [g]; exact g1) (fun _ => g2) (fun _ => by rw [g]; exact sm)) ?_
 rw [g, F4]
 have e1 : (t == Bf xb (a :: r)) = true := by simp [n3]
 rw [e1]
 simp <;> rfl
theorem lkBL {kp b t xb : Int} {R : List (Option Val)} {i : Int} (h : Rel kp b t R xb ([] : List (Option Val))) : ∀ (n : Nat) (m : Int), m + n = Bf xb ([] : List (Option Val)) + 2 → -100 ≤ m →
  LoopN lp 3 (Ag J0 0) (tl 0 90 [(0, (.ptr 0 0 0)), (1, (.ptr 2 0 0)), (2, .p (.int .i64 i)), (7, .p (.int .i64 m))]) (mS true kp b t R ++ xS 3 kp xb ([] : List (Option Val))) (.exit 0, (tl 0 90 [(0, (.ptr 0 0 0)), (1, (.ptr 2 0 0)), (2, .p (.int .i64 i))]), (mS true kp b t R ++ xS 3 kp xb ([] : List (Option Val)))) := by
 obtain ⟨n1, n2, n3, n4, n5⟩ := h.nums
 have tb := Fu h.bnd
 have hw : IntKind.wrap .i64 (Bf xb ([] : List (Option Val)) + 1) = Bf xb ([] : List (Option Val)) + 1 := A6 (by omega) (by omega)
 have ht := K3 h.bnd
 intro n
 induction n with
 | zero => intro m h1 h2; exact lkBR_n ht (by rw [hw]; exact decide_eq_false (by omega))
 | succ n ih =>
  intro m h1 h2
  have hr := ih (m + 1) (by omega) (by omega)
  have g := h.get m
  have g1 := getR n1 ⟨n2.1, n2.2.2⟩ ⟨n4, n5⟩ h.okr (i := m)
  have g2 := T6 (i := m) h.bnd
  have sm := T3 _ _ (Ea h.bnd m) (Ea h.bnd m)
  rw [g] at g1
  refine Vm ht (by rw [hw]; exact decide_eq_true (by omega)) (by rw [g]; exact g1) g2 (by rw [g]; exact sm) (by rw [g]; exact F4 _) (by rw [g]; simp) (by rw [g]; simp) ?_
  rw [A6 (by omega) (by omega)]; exact hr
theorem lkBC {kp b t xb : Int} {R : List (Option Val)} {i : Int} (h : Rel kp b t R xb ([] : List (Option Val))) :
  Runs lp 20 [.ptr 0 0 0, .ptr 2 0 0, .p (.int .i64 i)] (mS true kp b t R ++ xS 3 kp xb ([] : List (Option Val))) (.p (.bool true), (mS true kp b t R ++ xS 3 kp xb ([] : List (Option Val)))) := by
 obtain ⟨n1, n2, n3, n4, n5⟩ := h.nums
 have tb := Fu h.bnd
 have ht := K3 h.bnd
 have g := h.get i
 have g1 := getR n1 ⟨n2.1, n2.2.2⟩ ⟨n4, n5⟩ h.okr (i := i)
 have g2 := T6 (i := i) h.bnd
 have sm := T3 _ _ (Ea h.bnd i) (Ea h.bnd i)
 rw [g] at g1
 have hl := lkBL (i := i) h 72 (Bf xb ([] : List (Option Val)) - 70) (by omega) (by omega)
 have hw : IntKind.wrap .i64 (Bf xb ([] : List (Option Val)) - 70) = Bf xb ([] : List (Option Val)) - 70 := A6 (by omega) (by omega)
 refine ifE (lkB topR ht (fun _ => by rw [hw]; exact hl) (fun _ => by rw [g]; exact g1) (fun _ => g2) (fun _ => by rw [g]; exact sm)) ?_
 rw [g, F4]
 have e1 : (t == Bf xb ([] : List (Option Val))) = true := by simp [n3]
 rw [e1]
 simp <;> rfl
theorem InvI.putAll {kp xb : Int} : ∀ (M : List (Option Val)) {t : Int} {R L : List (Option Val)}, InvI kp t R xb L → InvI kp (t + M.length) (putAll kp t R M) xb (L ++ M)
 | [], t, R, L, h => by simpa [Go.Proofs.Ytmbjojnldbeicaa.putAll] using h
 | x :: r, t, R, L, h => by
  have := InvI.putAll r (h.note x)
  unfold Go.Proofs.Ytmbjojnldbeicaa.putAll
  rw [List.append_assoc] at this
  have e : t + 1 + (r.length : Int) = t + ((x :: r).length : Nat) := by simp; omega
  rw [e] at this
  exact this
theorem My {kp : Int} : ∀ (M : List (Option Val)) {t : Int} {R : List (Option Val)}, okR kp R → (∀ v, some v ∈ M → okV v) → okR kp (putAll kp t R M)
 | [], t, R, h, _ => h
 | x :: r, t, R, h, hM => My r (T4 h (fun v e => hM v (by rw [e]; exact List.mem_cons_self))) (fun v hv => hM v (List.mem_cons_of_mem _ hv))
theorem relRead {x : Src} (hs : (rS x).2 = false) : Rel (rK x) (rB x) (rT x) (rR x) (r0 x) (rL x) := by
 have hb := rS_good hs
 obtain ⟨k0, k1⟩ := Pg x
 obtain ⟨b0, b1⟩ := S1 x
 obtain ⟨t0, t1⟩ := S2 x
 obtain ⟨c1, c2, c3, c4, c5, c6⟩ := Mx x hb
 have hl := Yd x hb hs
 have hi := InvI.putAll (rL x) (InvI.new (kp := rK x) (b := r0 x) k0 (by omega))
 rw [List.nil_append] at hi
 have e : r0 x + ((rL x).length : Int) = rT x := by omega
 rw [e] at hi
 exact ⟨hi, ⟨b0, c1, by omega⟩, ⟨k0, k1, by omega, by omega, by omega, rL_ok x⟩, My _ T5 (rL_ok x)⟩
theorem lkB' {p : Prop} {kp b t xb : Int} {R : List (Option Val)} {i : Int} (h : p → Rel kp b t R xb []) (hp : p) : Runs lp 20 [.ptr 0 0 0, .ptr 2 0 0, .p (.int .i64 i)] (mS true kp b t R ++ xS 3 kp xb []) (.p (.bool true), mS true kp b t R ++ xS 3 kp xb []) := lkBC (h hp)
theorem lkA' {p : Prop} {kp b t xb : Int} {R : List (Option Val)} {a : Option Val} {r : List (Option Val)} {i : Int} (h : p → Rel kp b t R xb (a :: r)) (hp : p) : Runs lp 20 [.ptr 0 0 0, .ptr 2 0 0, .p (.int .i64 i)] (mS true kp b t R ++ xS 3 kp xb (a :: r)) (.p (.bool true), mS true kp b t R ++ xS 3 kp xb (a :: r)) := lkAC (h hp)
theorem lawRe {Bb : List UInt8} {i : Int} : ∃ st, Runs lp 5 [.p (.sl (bs Bb)), .p (.int .i64 i)] [] (.p (.bool true), st) := by
 have no : ∀ {p : Prop} {b : Bool}, b = true → b = false → p := fun h g => by rw [h] at g; cases g
 have LK : (rS (Bb, false)).2 = false → Rel (rK (Bb, false)) (rB (Bb, false)) (rT (Bb, false)) (rR (Bb, false)) (r0 (Bb, false)) (rL (Bb, false)) := relRead
 have F : Runs lp 16 [.p (.sl (bs Bb))] [] (.ptr 0 0 0, [.row [[.p (.sl (bs Bb)), .p (.bool false)]]]) := Z0
 have A1 := fun (c : Bb.length ≤ 20000) => pReadC (Bb, false) (by simp; omega)
 have A2 := fun (c : Bb.length ≤ 20000) => xReadC (Bb, false) (by simp; omega)
 have b1 := fun (c : Bb.length ≤ 20000) (h : (rS (Bb, false)).2 = true) => ifE (A1 c) (if_pos h)
 have b2 := fun (c : Bb.length ≤ 20000) (h : (rS (Bb, false)).2 = true) => ifE (A2 c) (if_pos h)
 have g1 := fun (c : Bb.length ≤ 20000) (h : (rS (Bb, false)).2 = false) => ifE (A1 c) (if_neg (by rw [h]; decide))
 have g2 := fun (c : Bb.length ≤ 20000) (h : (rS (Bb, false)).2 = false) => ifE (A2 c) (if_neg (by rw [h]; decide))
 by_cases hd : Bb = []
 ·have c0 : Bb.length ≤ 20000 := by rw [hd]; decide
  cases hL : rL (Bb, false) with
  | nil =>
   rw [hL] at g2 LK
   have dT : decide (rL (Bb, false) = []) = true := by rw [hL]; rfl
   have := lkB' (i := i) LK
   subst hd
   have h := lawR0 (i := i) F (b1 c0) (b2 c0) (g1 c0) (fun h _ => g2 c0 h) (fun h _ => this h) (fun _ h => no dT h) (fun _ h => no dT h)
   (first | exact ⟨_, h⟩ | (split at h <;> first | exact ⟨_, h⟩ | (split at h <;> first | exact ⟨_, h⟩ | (split at h <;> exact ⟨_, h⟩))))
  | cons a r =>
   rw [hL] at g2 LK
   have dF : decide (rL (Bb, false) = []) = false := by rw [hL]; rfl
   have := lkA' (i := i) LK
   subst hd
   rw [← hL] at g2 this
   have h := lawR0 (i := i) F (b1 c0) (b2 c0) (g1 c0) (fun _ h => no h dF) (fun _ h => no h dF) (fun h _ => by have := g2 c0 h; rw [hL] at this ⊢; exact this) (fun h _ => by have := this h; rw [hL] at this ⊢; exact this)
   (first | exact ⟨_, h⟩ | (split at h <;> first | exact ⟨_, h⟩ | (split at h <;> first | exact ⟨_, h⟩ | (split at h <;> exact ⟨_, h⟩))))
 ·have key : decide (((List.length (bs Bb) : Nat) : Int) > 20000) = false → Bb.length ≤ 20000 := fun c => by
   have := of_decide_eq_false c; rw [Cb] at this; omega
  cases hL : rL (Bb, false) with
  | nil =>
   rw [hL] at g2 LK
   have dT : decide (rL (Bb, false) = []) = true := by rw [hL]; rfl
   have := lkB' (i := i) LK
   have h := lawR1 (i := i) (fun _ => hd) (fun c => by have := key c; omega) (fun _ => F) (fun c => b1 (key c)) (fun c => b2 (key c)) (fun c => g1 (key c)) (fun c h _ => g2 (key c) h) (fun _ h _ => this h) (fun _ _ h => no dT h) (fun _ _ h => no dT h)
   (first | exact ⟨_, h⟩ | (split at h <;> first | exact ⟨_, h⟩ | (split at h <;> first | exact ⟨_, h⟩ | (split at h <;> exact ⟨_, h⟩))))
  | cons a r =>
   rw [hL] at g2 LK
   have dF : decide (rL (Bb, false) = []) = false := by rw [hL]; rfl
   have := lkA' (i := i) LK
   have h := lawR1 (i := i) (fun _ => hd) (fun c => by have := key c; omega) (fun _ => F) (fun c => b1 (key c)) (fun c => b2 (key c)) (fun c => g1 (key c)) (fun _ _ h => no h dF) (fun _ _ h => no h dF) (fun c h _ => by have := g2 (key c) h; rw [hL]; exact this) (fun _ h _ => by have := this h; rw [hL]; exact this)
   (first | exact ⟨_, h⟩ | (split at h <;> first | exact ⟨_, h⟩ | (split at h <;> first | exact ⟨_, h⟩ | (split at h <;> exact ⟨_, h⟩))))
end Go.Proofs.Ytmbjojnldbeicaa

import Derived.Test.YtmbjojnldbeicaaLsIm5
set_option linter.unusedVariables false
set_option linter.unusedSimpArgs false
set_option maxRecDepth 100000
namespace Go.Proofs.Ytmbjojnldbeicaa
open Go Go.LS
theorem lkAL {kp b t xb : Int} {R : List (Option Val)} {a : Option Val} {r : List (Option Val)} {i : Int} (h : Rel kp b t R xb (a :: r)) : ∀ (n : Nat) (m : Int), m + n = A5 xb (a :: r) + 2 → -100 ≤ m →
  LoopN lp 4 (Ae Fv 0) (tl 0 90 [(0, (.ptr 0 0 0)), (1, (.ptr 2 0 0)), (2, .p (.int .i64 i)), (7, .p (.int .i64 m))]) (mS true kp b t R ++ xS 3 kp xb (a :: r)) (.exit 0, (tl 0 90 [(0, (.ptr 0 0 0)), (1, (.ptr 2 0 0)), (2, .p (.int .i64 i))]), (mS true kp b t R ++ xS 3 kp xb (a :: r))) := by
 obtain ⟨n1, n2, n3, n4, n5⟩ := h.nums
 have tb := D8 h.bnd
 have hw : IntKind.wrap .i64 (A5 xb (a :: r) + 1) = A5 xb (a :: r) + 1 := A9 (by omega) (by omega)
 have ht := C2 h.bnd
 intro n
 induction n with
 | zero => intro m h1 h2; exact lkAR_n ht (by rw [hw]; exact decide_eq_false (by omega))
 | succ n ih =>
  intro m h1 h2
  have hr := ih (m + 1) (by omega) (by omega)
  have g := h.get m
  have g1 := getR n1 ⟨n2.1, n2.2.2⟩ ⟨n4, n5⟩ h.okr (i := m)
  have g2 := Mk (i := m) h.bnd
  have sm := Mj _ _ (Cw h.bnd m) (Cw h.bnd m)
  rw [g] at g1
  refine Y0 (L := a :: r) ht (by rw [hw]; exact decide_eq_true (by omega)) (by rw [g]; exact g1) g2 (by rw [g]; exact sm) (by rw [g]; exact D0 _) (by rw [g]; simp) (by rw [g]; simp) ?_
  rw [A9 (by omega) (by omega)]; exact hr
theorem lkAC {kp b t xb : Int} {R : List (Option Val)} {a : Option Val} {r : List (Option Val)} {i : Int} (h : Rel kp b t R xb (a :: r)) :
  Runs lp 20 [.ptr 0 0 0, .ptr 2 0 0, .p (.int .i64 i)] (mS true kp b t R ++ xS 3 kp xb (a :: r)) (.p (.bool true), (mS true kp b t R ++ xS 3 kp xb (a :: r))) := by
 obtain ⟨n1, n2, n3, n4, n5⟩ := h.nums
 have tb := D8 h.bnd
 have ht := C2 h.bnd
 have g := h.get i
 have g1 := getR n1 ⟨n2.1, n2.2.2⟩ ⟨n4, n5⟩ h.okr (i := i)
 have g2 := Mk (i := i) h.bnd
 have sm := Mj _ _ (Cw h.bnd i) (Cw h.bnd i)
 rw [g] at g1
 have hl := lkAL (i := i) h 72 (A5 xb (a :: r) - 70) (by omega) (by omega)
 have hw : IntKind.wrap .i64 (A5 xb (a :: r) - 70) = A5 xb (a :: r) - 70 := A9 (by omega) (by omega)
 refine ifE (lkA (L := a :: r) topR ht (fun _ => by rw [hw]; exact hl) (fun _ => by rw [g]; exact g1) (fun _ => g2) (fun _ => by rw [g]; exact sm)) ?_
 rw [g, D0]
 have e1 : (t == A5 xb (a :: r)) = true := by simp [n3]
 rw [e1]
 simp <;> rfl
theorem lkBL {kp b t xb : Int} {R : List (Option Val)} {i : Int} (h : Rel kp b t R xb ([] : List (Option Val))) : ∀ (n : Nat) (m : Int), m + n = A5 xb ([] : List (Option Val)) + 2 → -100 ≤ m →
  LoopN lp 3 (Ae Fv 0) (tl 0 90 [(0, (.ptr 0 0 0)), (1, (.ptr 2 0 0)), (2, .p (.int .i64 i)), (7, .p (.int .i64 m))]) (mS true kp b t R ++ xS 3 kp xb ([] : List (Option Val))) (.exit 0, (tl 0 90 [(0, (.ptr 0 0 0)), (1, (.ptr 2 0 0)), (2, .p (.int .i64 i))]), (mS true kp b t R ++ xS 3 kp xb ([] : List (Option Val)))) := by
 obtain ⟨n1, n2, n3, n4, n5⟩ := h.nums
 have tb := D8 h.bnd
 have hw : IntKind.wrap .i64 (A5 xb ([] : List (Option Val)) + 1) = A5 xb ([] : List (Option Val)) + 1 := A9 (by omega) (by omega)
 have ht := C2 h.bnd
 intro n
 induction n with
 | zero => intro m h1 h2; exact lkBR_n ht (by rw [hw]; exact decide_eq_false (by omega))
 | succ n ih =>
  intro m h1 h2
  have hr := ih (m + 1) (by omega) (by omega)
  have g := h.get m
  have g1 := getR n1 ⟨n2.1, n2.2.2⟩ ⟨n4, n5⟩ h.okr (i := m)
  have g2 := Mk (i := m) h.bnd
  have sm := Mj _ _ (Cw h.bnd m) (Cw h.bnd m)
  rw [g] at g1
  refine Y1 ht (by rw [hw]; exact decide_eq_true (by omega)) (by rw [g]; exact g1) g2 (by rw [g]; exact sm) (by rw [g]; exact D0 _) (by rw [g]; simp) (by rw [g]; simp) ?_
  rw [A9 (by omega) (by omega)]; exact hr
theorem lkBC {kp b t xb : Int} {R : List (Option Val)} {i : Int} (h : Rel kp b t R xb ([] : List (Option Val))) :
  Runs lp 20 [.ptr 0 0 0, .ptr 2 0 0, .p (.int .i64 i)] (mS true kp b t R ++ xS 3 kp xb ([] : List (Option Val))) (.p (.bool true), (mS true kp b t R ++ xS 3 kp xb ([] : List (Option Val)))) := by
 obtain ⟨n1, n2, n3, n4, n5⟩ := h.nums
 have tb := D8 h.bnd
 have ht := C2 h.bnd
 have g := h.get i
 have g1 := getR n1 ⟨n2.1, n2.2.2⟩ ⟨n4, n5⟩ h.okr (i := i)
 have g2 := Mk (i := i) h.bnd
 have sm := Mj _ _ (Cw h.bnd i) (Cw h.bnd i)
 rw [g] at g1
 have hl := lkBL (i := i) h 72 (A5 xb ([] : List (Option Val)) - 70) (by omega) (by omega)
 have hw : IntKind.wrap .i64 (A5 xb ([] : List (Option Val)) - 70) = A5 xb ([] : List (Option Val)) - 70 := A9 (by omega) (by omega)
 refine ifE (lkB topR ht (fun _ => by rw [hw]; exact hl) (fun _ => by rw [g]; exact g1) (fun _ => g2) (fun _ => by rw [g]; exact sm)) ?_
 rw [g, D0]
 have e1 : (t == A5 xb ([] : List (Option Val))) = true := by simp [n3]
 rw [e1]
 simp <;> rfl
theorem lkCL {b t xb : Int} {a : Option Val} {r : List (Option Val)} {i : Int} (h : Rel 0 b t [] xb (a :: r)) : ∀ (n : Nat) (m : Int), m + n = A5 xb (a :: r) + 2 → -100 ≤ m →
  LoopN lp 3 (Ae Fv 0) (tl 0 90 [(0, (.ptr 0 0 0)), (1, (.ptr 1 0 0)), (2, .p (.int .i64 i)), (7, .p (.int .i64 m))]) (mS false 0 b t [] ++ xS 2 0 xb (a :: r)) (.exit 0, (tl 0 90 [(0, (.ptr 0 0 0)), (1, (.ptr 1 0 0)), (2, .p (.int .i64 i))]), (mS false 0 b t [] ++ xS 2 0 xb (a :: r))) := by
 obtain ⟨n1, n2, n3, n4, n5⟩ := h.nums
 have tb := D8 h.bnd
 have hw : IntKind.wrap .i64 (A5 xb (a :: r) + 1) = A5 xb (a :: r) + 1 := A9 (by omega) (by omega)
 have ht := C2 h.bnd
 intro n
 induction n with
 | zero => intro m h1 h2; exact lkCR_n ht (by rw [hw]; exact decide_eq_false (by omega))
 | succ n ih =>
  intro m h1 h2
  have hr := ih (m + 1) (by omega) (by omega)
  have g := h.get m
  have g1 := Xp (b := b) (t := t) ⟨n2.1, by have := h.bnd.b0; have e := h.inv.top; omega⟩ n5 (i := m)
  have g2 := Mk (i := m) h.bnd
  have sm := Mj _ _ (Cw h.bnd m) (Cw h.bnd m)
  rw [g] at g1
  refine Y2 (L := a :: r) ht (by rw [hw]; exact decide_eq_true (by omega)) (by rw [g]; exact g1) g2 (by rw [g]; exact sm) (by rw [g]; exact D0 _) (by rw [g]; simp) (by rw [g]; simp) ?_
  rw [A9 (by omega) (by omega)]; exact hr
theorem lkCC {b t xb : Int} {a : Option Val} {r : List (Option Val)} {i : Int} (h : Rel 0 b t [] xb (a :: r)) :
  Runs lp 20 [.ptr 0 0 0, .ptr 1 0 0, .p (.int .i64 i)] (mS false 0 b t [] ++ xS 2 0 xb (a :: r)) (.p (.bool true), (mS false 0 b t [] ++ xS 2 0 xb (a :: r))) := by
 obtain ⟨n1, n2, n3, n4, n5⟩ := h.nums
 have tb := D8 h.bnd
 have ht := C2 h.bnd
 have g := h.get i
 have g1 := Xp (b := b) (t := t) ⟨n2.1, by have := h.bnd.b0; have e := h.inv.top; omega⟩ n5 (i := i)
 have g2 := Mk (i := i) h.bnd
 have sm := Mj _ _ (Cw h.bnd i) (Cw h.bnd i)
 rw [g] at g1
 have hl := lkCL (i := i) h 72 (A5 xb (a :: r) - 70) (by omega) (by omega)
 have hw : IntKind.wrap .i64 (A5 xb (a :: r) - 70) = A5 xb (a :: r) - 70 := A9 (by omega) (by omega)
 refine ifE (lkC (L := a :: r) zTop ht (fun _ => by rw [hw]; exact hl) (fun _ => by rw [g]; exact g1) (fun _ => g2) (fun _ => by rw [g]; exact sm)) ?_
 rw [g, D0]
 have e1 : (t == A5 xb (a :: r)) = true := by simp [n3]
 rw [e1]
 simp <;> rfl
theorem lkDL {b t xb : Int} {i : Int} (h : Rel 0 b t [] xb ([] : List (Option Val))) : ∀ (n : Nat) (m : Int), m + n = A5 xb ([] : List (Option Val)) + 2 → -100 ≤ m →
  LoopN lp 2 (Ae Fv 0) (tl 0 90 [(0, (.ptr 0 0 0)), (1, (.ptr 1 0 0)), (2, .p (.int .i64 i)), (7, .p (.int .i64 m))]) (mS false 0 b t [] ++ xS 2 0 xb ([] : List (Option Val))) (.exit 0, (tl 0 90 [(0, (.ptr 0 0 0)), (1, (.ptr 1 0 0)), (2, .p (.int .i64 i))]), (mS false 0 b t [] ++ xS 2 0 xb ([] : List (Option Val)))) := by
 obtain ⟨n1, n2, n3, n4, n5⟩ := h.nums
 have tb := D8 h.bnd
 have hw : IntKind.wrap .i64 (A5 xb ([] : List (Option Val)) + 1) = A5 xb ([] : List (Option Val)) + 1 := A9 (by omega) (by omega)
 have ht := C2 h.bnd
 intro n
 induction n with
 | zero => intro m h1 h2; exact lkDR_n ht (by rw [hw]; exact decide_eq_false (by omega))
 | succ n ih =>
  intro m h1 h2
  have hr := ih (m + 1) (by omega) (by omega)
  have g := h.get m
  have g1 := Xp (b := b) (t := t) ⟨n2.1, by have := h.bnd.b0; have e := h.inv.top; omega⟩ n5 (i := m)
  have g2 := Mk (i := m) h.bnd
  have sm := Mj _ _ (Cw h.bnd m) (Cw h.bnd m)
  rw [g] at g1
  refine Y3 ht (by rw [hw]; exact decide_eq_true (by omega)) (by rw [g]; exact g1) g2 (by rw [g]; exact sm) (by rw [g]; exact D0 _) (by rw [g]; simp) (by rw [g]; simp) ?_
  rw [A9 (by omega) (by omega)]; exact hr
theorem lkDC {b t xb : Int} {i : Int} (h : Rel 0 b t [] xb ([] : List (Option Val))) :
  Runs lp 20 [.ptr 0 0 0, .ptr 1 0 0, .p (.int .i64 i)] (mS false 0 b t [] ++ xS 2 0 xb ([] : List (Option Val))) (.p (.bool true), (mS false 0 b t [] ++ xS 2 0 xb ([] : List (Option Val)))) := by
 obtain ⟨n1, n2, n3, n4, n5⟩ := h.nums
 have tb := D8 h.bnd
 have ht := C2 h.bnd
 have g := h.get i
 have g1 := Xp (b := b) (t := t) ⟨n2.1, by have := h.bnd.b0; have e := h.inv.top; omega⟩ n5 (i := i)
 have g2 := Mk (i := i) h.bnd
 have sm := Mj _ _ (Cw h.bnd i) (Cw h.bnd i)
 rw [g] at g1
 have hl := lkDL (i := i) h 72 (A5 xb ([] : List (Option Val)) - 70) (by omega) (by omega)
 have hw : IntKind.wrap .i64 (A5 xb ([] : List (Option Val)) - 70) = A5 xb ([] : List (Option Val)) - 70 := A9 (by omega) (by omega)
 refine ifE (lkD zTop ht (fun _ => by rw [hw]; exact hl) (fun _ => by rw [g]; exact g1) (fun _ => g2) (fun _ => by rw [g]; exact sm)) ?_
 rw [g, D0]
 have e1 : (t == A5 xb ([] : List (Option Val))) = true := by simp [n3]
 rw [e1]
 simp <;> rfl
theorem InvI.putAll {kp xb : Int} : ∀ (M : List (Option Val)) {t : Int} {R L : List (Option Val)}, InvI kp t R xb L → InvI kp (t + M.length) (putAll kp t R M) xb (L ++ M)
 | [], t, R, L, h => by simpa [Go.Proofs.Ytmbjojnldbeicaa.putAll] using h
 | x :: r, t, R, L, h => by
  have := InvI.putAll r (h.note x)
  unfold Go.Proofs.Ytmbjojnldbeicaa.putAll
  rw [List.append_assoc] at this
  have e : t + 1 + (r.length : Int) = t + ((x :: r).length : Nat) := by simp; omega
  rw [e] at this
  exact this
theorem Oo {kp : Int} : ∀ (M : List (Option Val)) {t : Int} {R : List (Option Val)}, okR kp R → (∀ v, some v ∈ M → okV v) → okR kp (putAll kp t R M)
 | [], t, R, h, _ => h
 | x :: r, t, R, h, hM => Oo r (Qw h (fun v e => hM v (by rw [e]; exact List.mem_cons_self))) (fun v hv => hM v (List.mem_cons_of_mem _ hv))
theorem relRead {x : Src} (hs : (rS x).2 = false) : Rel (rK x) (rB x) (rT x) (rR x) (r0 x) (rL x) := by
 have hb := rS_good hs
 obtain ⟨k0, k1⟩ := V8 x
 obtain ⟨b0, b1⟩ := rB_bnd x
 obtain ⟨t0, t1⟩ := rT_bnd x
 obtain ⟨c1, c2, c3, c4, c5, c6⟩ := V9 x hb
 have hl := rL_len x hb hs
 have hi := InvI.putAll (rL x) (InvI.new (kp := rK x) (b := r0 x) k0 (by omega))
 rw [List.nil_append] at hi
 have e : r0 x + ((rL x).length : Int) = rT x := by omega
 rw [e] at hi
 exact ⟨hi, ⟨b0, c1, by omega⟩, ⟨k0, k1, by omega, by omega, by omega, rL_ok x⟩, Oo _ Qx (rL_ok x)⟩
end Go.Proofs.Ytmbjojnldbeicaa

/- A small semantics of loaded Go code that the kernel can run, part 7. -/
import Derived.Test.YthmjaeflpgcmdaaLsG6
import Derived.Test.YthmjaeflpgcmdaaLsG5
set_option linter.unusedVariables false
namespace Go.LS
def u8 (x : Int) : UInt8 := UInt8.ofNat (Int.toNat (IntKind.wrap .u8 x))
mutual
def encC : Val → List UInt8
 | .mk k n s is ns => u8 k :: (if k == 1 then [] else if k == 2 then [u8 n] else if k == 3 then Af (zzN n) else if k == 4 || k == 5 then Af s.length ++ s
  else Af is.length ++ encL (k == 7) is ns)
def encL : Bool → List Val → List (List UInt8) → List UInt8
 | _, [], _ => []
 | d, v :: r, ns => (if d then Af (ns.headD []).length ++ ns.headD [] else []) ++ encC v ++ encL d r ns.tail
end
end Go.LS
set_option linter.unusedVariables false
namespace Go.LS
end Go.LS
set_option linter.unusedVariables false
namespace Go.LS
end Go.LS
namespace Go.LS
end Go.LS
set_option linter.unusedVariables false
namespace Go.LS
end Go.LS
set_option linter.unusedVariables false
set_option linter.unusedSimpArgs false
namespace Go.LS
theorem Rz {lp : A1} {f : FuncId} {args0 args : List LV} {st st1 st' : List LObj} {r v : LV} (h : Runs lp f args [] (r, st1)) (hw : wk (lp.weak f) args0 = args) (h0 : args.flatMap LV.refs = []) (hr : args.map (LV.ren fun q => ([] : List Nat).idxOf q) = args)
  (hv : r.ren (Fa [] st.length) = v) (hs : st ++ st1.map (LObj.ren (Fa [] st.length)) = st') : Al lp f args0 st (v, st') := by
 have hk : Ou lp f args0 st r st1 = some (v, st', Runs lp f args [] (r, st1)) := by
  unfold Ou
  simp only [hw, h0]
  have e1 : Dq st 100000 [] [] = [] := rfl
  rw [e1]
  simp only [hr]
  have e2 : sub st [] = [] := rfl
  have e3 : (C9 st [] && ([] : List Nat).all (([] : List Nat).contains ·) && decide ([] : List Nat).Nodup) = true := rfl
  rw [if_pos e3, if_pos (show ([] : List Nat).length ≤ st1.length from Nat.zero_le _), e2, hv]
  simp only [List.length_nil, List.take_zero, List.map_nil, Cc, List.drop_zero]
  rw [hs]
 obtain ⟨n, hn⟩ := Hg hk h
 exact ⟨n, hn⟩
def oG {lp : A1} {k : Nat} {x : List Bool × Bh} {t1 t t' : List LV} {st1 st st' : List LObj} {o : C4} (_ : gc k t1 st1 = some (t, st)) (_ : LoopN lp k x t st (o, t', st')) : Orc := .lg o t' st' t st
def oA {lp : A1} {f : FuncId} {args : List LV} {st st' : List LObj} {v : LV} (_ : Al lp f args st (v, st')) : Orc := .cg v st'
end Go.LS
namespace Go.LS
end Go.LS
namespace Go.LS
end Go.LS
set_option linter.unusedVariables false
set_option linter.unusedSimpArgs false
namespace Go.LS
theorem Ae {lp : A1} {f : FuncId} {args0 args args' : List LV} {st sh st1 st' sub' : List LObj} {r v : LV} {ids : List Nat} (hr : st.map LObj.refs = sh.map LObj.refs) (hw : wk (lp.weak f) args0 = args)
  (hi : Dq sh 100000 (args.flatMap LV.refs) [] = ids) (hc : (C9 sh ids && (args.flatMap LV.refs).all (ids.contains ·) && decide ids.Nodup) = true)
  (ha : args.map (LV.ren fun q => ids.idxOf q) = args') (hs : sub st ids = sub') (h : Runs lp f args' sub' (r, st1)) (hl : decide (ids.length ≤ st1.length) = true) (hv : r.ren (Fa ids st.length) = v)
  (hp : Cc st ids ((st1.take ids.length).map (LObj.ren (Fa ids st.length))) ++ (st1.drop ids.length).map (LObj.ren (Fa ids st.length)) = st') : Al lp f args0 st (v, st') := by
 obtain ⟨n, hn⟩ := Runs.at h
 refine ⟨n, fun m hm => ?_⟩
 unfold B0
 simp only
 rw [Jy, hw, Rj hr, hi, Ow hr, if_pos hc, ha, hs, hn m hm]
 simp only
 rw [if_pos (of_decide_eq_true hl), hv, hp]
section
variable {o n size : Nat} {X : List (List PV)} {st : List LObj}
end
end Go.LS
namespace Go.LS
end Go.LS
set_option linter.unusedVariables false
set_option linter.unusedSimpArgs false
namespace Go.LS
def Lr (sp tn : Int) (X : List UInt8) : List UInt8 := if sp == 0 then X.take (Int.toNat (if tn < (X.length : Int) then tn else (X.length : Int))) else X
def A0 (E : List Ak) (sp tn : Int) (off : Bool) (s X : List UInt8) : Int × List Ak × Int × Bool :=
 if off = true then (90, E, sp, off) else if nmB s = true then
  (if Bj s E = true then (if (X.length : Int) > 1048576 - ((Ad s E).1.length : Int) then (2, E, sp, off) else (if sp == 0 then 90 else 0, Ba s ((Ad s E).1 ++ Lr sp tn X) (Ad s E).2 E, Ao sp, sp == 0))
  else if (X.length : Int) > 1048576 then (2, E, sp, off) else if ((E.length : Nat) : Int) == 256 then (2, E, sp, off) else (if sp == 0 then 90 else 0, Ba s (Lr sp tn X) 0 E, Ao sp, sp == 0))
 else (1, E, sp, off)
def Bo (E : List Ak) (sp tn : Int) (off : Bool) (s : List UInt8) : Int × List Ak × Int × Bool :=
 if off = true then (90, E, sp, off) else if nmB s = true then
  (if Bj s E = true then (if (sp == 0) = true then (90, E, Ao sp, sp == 0) else (0, Ba s (Ad s E).1 (((Ad s E).1.length : Nat) : Int) E, Ao sp, sp == 0)) else (4, E, sp, off))
 else (1, E, sp, off)
def Ld (E : List Ak) (sp tn : Int) (off : Bool) (n m : Int) : Int × Int × Int :=
 if off = true then (90, sp, tn) else if decide (n < (-1)) = true then (1, sp, tn) else if decide (m < 0) = true then (1, sp, tn) else (0, n, m)
def Ga (E : List Ak) (sp tn : Int) (off : Bool) (s : List UInt8) : Int × List Ak × Int × Bool :=
 if off = true then (90, E, sp, off) else if nmB s = true then
  (if Bj s E = true then (if (sp == 0) = true then (90, E, Ao sp, sp == 0) else (0, B2 s E, Ao sp, sp == 0)) else (4, E, sp, off))
 else (1, E, sp, off)
def Cz (E : List Ak) (sp tn : Int) (off : Bool) (s zz : List UInt8) : Int × List Ak × Int × Bool :=
 if off = true then (90, E, sp, off) else if nmB s = true then if nmB zz = true then
  (if Bj s E = true then (if (s == zz) = true then (1, E, sp, off) else (if (sp == 0) = true then (90, E, Ao sp, sp == 0) else (0, Ba zz (Ad s E).1 (Ad s E).2 (B2 s E), Ao sp, sp == 0))) else (4, E, sp, off))
 else (1, E, sp, off) else (1, E, sp, off)
def H6 : List Bt → List Bt → List Bt
 | [], ks => ks
 | (s, n) :: r, ks => H6 r (Ke s (if n < 0 then 0 else n) ks)
theorem Js : ∀ (l ks : List Bt), F4 (A3 l) ks = some (if Bx l = true then some (H6 l ks) else none)
 | [], ks => rfl
 | (s, n) :: r, ks => by
  have ih := Js r (Ke s (if n < 0 then 0 else n) ks)
  simp only [A3] at ih
  have hkb : Bx ((s, n) :: r) = (nmB s && Bx r) := rfl
  simp only [A3, List.map_cons, F4, H6]
  by_cases hb : nmB s = true
  ·rw [show Bx ((s, n) :: r) = Bx r by rw [hkb, hb]; rfl, if_pos hb]
   exact ih
  ·rw [show Bx ((s, n) :: r) = false by rw [hkb]; simp [hb], if_neg hb]; rfl
theorem Nh : ∀ {l ks : List Bt}, kOk ks → kOk (H6 l ks)
 | [], ks, h => h
 | (s, n) :: r, ks, h => Nh (l := r) (Py (by split <;> omega) h)
def Vv (ks : List Bt) (e : Ak) : Ak := (e.1, e.2.1.take (F5 ks e.1 (bs e.2.1) e.2.2).toNat, F5 ks e.1 (bs e.2.1) e.2.2)
def C0 (l : List Bt) (E : List Ak) : List Ak := E.map (Vv (H6 l []))
def OKE (E : List Ak) : Prop := (∀ e ∈ E, 0 ≤ e.2.2 ∧ e.2.2 ≤ (e.2.1.length : Int) ∧ e.2.1.length ≤ 1048576) ∧ (E.map (·.1)).Nodup
theorem Ni : ∀ {E : List Ak}, (∀ e ∈ E, 0 ≤ e.2.2 ∧ e.2.2 ≤ (e.2.1.length : Int) ∧ e.2.1.length ≤ 1048576) → Ig (kvF E) = some (E.map fun e => (e.1, bs e.2.1, e.2.2))
 | [], _ => rfl
 | e :: r, h => by
  have ih := Ni (E := r) (fun x hx => h x (List.mem_cons_of_mem _ hx))
  obtain ⟨h1, h2, _⟩ := h e List.mem_cons_self
  simp only [kvF] at ih
  have hc : ((bs e.2.1).all fun x => x.length == 1) = true := M9 e.2.1 1 rfl
  have h3 : decide (e.2.2 ≤ ((bs e.2.1).length : Int)) = true := by rw [A6]; simpa using h2
  simp only [kvF, List.map_cons, Ig, H3, Rd, LV.asSl, hc, h3, decide_eq_true h1, Bool.and_self, if_true, ih]
theorem Tw (ks : List Bt) (E : List Ak) : (E.map fun e => (e.1, bs e.2.1, e.2.2)).map (Cm ks) = kvF (E.map (Vv ks)) := by
 simp only [kvF, List.map_map]
 refine List.map_congr_left fun e _ => ?_
 simp only [Function.comp, Cm, H3, Vv, P9]
theorem O8 : ∀ {l : List (List UInt8)}, l.Nodup → G7 l = true
 | [], _ => rfl
 | x :: r, h => by
  obtain ⟨h1, h2⟩ := List.nodup_cons.1 h
  simp only [G7, O8 h2, Bool.and_true, Bool.not_eq_true', List.any_eq_false, L4, Bool.and_eq_true, decide_eq_true_eq, not_and]
  intro y hy ha hb
  exact h1 (List.le_antisymm ha hb ▸ hy)
theorem Tx {E : List Ak} (hE : OKE E) {sp tn : Int} {off : Bool} {l : List Bt} :
  Ih [.ptr 0 0 0, .p (.sl (A3 l))] (dS E sp tn off) = some (if Bx l = true then (.p (.int .i64 0), dS (C0 l E) (-1) 0 false) else (.p (.int .i64 1), dS E sp tn off)) := by
 have hn : G7 ((E.map fun e => ((e.1, bs e.2.1, e.2.2) : Ent)).map (·.1)) = true := by
  rw [List.map_map]; exact O8 hE.2
 simp only [Ih, LV.asSl, dS, List.getElem?_cons_zero, List.getElem?_cons_succ, Js]
 cases hk : Bx l
 ·simp
 ·simp only [if_true, Ni hE.1, hn, Tw]
  rfl
theorem Fp : ∀ {E : List Ak} {s : List UInt8} {v}, Av s E = some v → (s, v) ∈ E
 | [], _, _, h => by cases h
 | (j, w) :: r, s, v, h => by
  simp only [Av] at h
  split at h
  ·rename_i e; simp only [beq_iff_eq] at e; cases h; subst e; exact List.mem_cons_self
  ·exact List.mem_cons_of_mem _ (Fp h)
theorem Nj : ∀ {E : List Ak} {s M : List UInt8} {u : Int} {e : Ak}, e ∈ Ba s M u E → e = (s, M, u) ∨ e ∈ E
 | [], _, _, _, _, h => by simp [Ba] at h; exact .inl h
 | (j, w) :: r, s, M, u, e, h => by
  simp only [Ba] at h
  split at h
  ·rcases List.mem_cons.1 h with rfl | h
   ·exact .inl rfl
   ·exact .inr (List.mem_cons_of_mem _ h)
  ·rcases List.mem_cons.1 h with rfl | h
   ·exact .inr List.mem_cons_self
   ·exact (Nj h).imp id (List.mem_cons_of_mem _)
theorem O9 : ∀ {E : List Ak} {s M : List UInt8} {u : Int}, (E.map (·.1)).Nodup → ((Ba s M u E).map (·.1)).Nodup
 | [], s, M, u, _ => by simp [Ba]
 | (j, w) :: r, s, M, u, h => by
  simp only [List.map_cons, List.nodup_cons] at h
  simp only [Ba]
  split
  ·rename_i e; simp only [beq_iff_eq] at e; subst e
   simpa using h
  ·rename_i e
   simp only [List.map_cons, List.nodup_cons]
   refine ⟨fun hm => ?_, O9 h.2⟩
   obtain ⟨x, hx, hxe⟩ := List.mem_map.1 hm
   rcases Nj hx with rfl | hx
   ·simp only at hxe; subst hxe; simp at e
   ·exact h.1 (List.mem_map.2 ⟨x, hx, hxe⟩)
theorem Jt {E : List Ak} (h : OKE E) {s M : List UInt8} {u : Int} (h1 : 0 ≤ u) (h2 : u ≤ (M.length : Int)) (h3 : M.length ≤ 1048576) : OKE (Ba s M u E) :=
 ⟨fun e he => by
  rcases Nj he with rfl | he
  ·exact ⟨h1, h2, h3⟩
  ·exact h.1 e he, O9 h.2⟩
theorem Hj {E : List Ak} (h : OKE E) (s : List UInt8) : 0 ≤ (Ad s E).2 ∧ (Ad s E).2 ≤ ((Ad s E).1.length : Int) ∧ (Ad s E).1.length ≤ 1048576 := by
 unfold Ad
 cases e : Av s E with
 | none => simp
 | some v => exact h.1 _ (Fp e)
theorem Ds : ∀ {E : List Ak} {s M : List UInt8} {u : Int}, Av s (Ba s M u E) = some (M, u)
 | [], s, M, u => by simp [Ba, Av]
 | (j, w) :: r, s, M, u => by
  simp only [Ba]
  split
  ·simp [Av]
  ·rename_i e; simp only [Av, e]; exact Ds
theorem Cn : ∀ {E : List Ak} {s t M : List UInt8} {u : Int}, t ≠ s → Av t (Ba s M u E) = Av t E
 | [], s, t, M, u, h => by simp [Ba, Av, h]
 | (j, w) :: r, s, t, M, u, h => by
  simp only [Ba]
  split
  ·rename_i e; simp only [beq_iff_eq] at e; subst e; simp [Av, h]
  ·simp only [Av]; rw [Cn h]
abbrev DSt := List Ak × Int × Int × Bool
def HasF (b : List UInt8) (E : List Ak) : Prop := ∃ Z u, Av [102] E = some (b ++ Z, u) ∧ (b.length : Int) ≤ u
theorem HasF.set {b : List UInt8} {E : List Ak} (h : HasF b E) {s M : List UInt8} {u : Int} (hs : s = [102] → ∃ Z, M = b ++ Z ∧ (b.length : Int) ≤ u) : HasF b (Ba s M u E) := by
 by_cases e : s = [102]
 ·subst e
  obtain ⟨Z, rfl, hu⟩ := hs rfl
  exact ⟨Z, u, Ds, hu⟩
 ·obtain ⟨Z, v, h1, h2⟩ := h
  exact ⟨Z, v, by rw [Cn (Ne.symm e)]; exact h1, h2⟩
structure DInv (b : List UInt8) (d : DSt) : Prop where
 oke : OKE d.1
 has : HasF b d.1
 s0 : -1 ≤ d.2.1
 s1 : d.2.1 ≤ 9223372036854775807
 t0 : 0 ≤ d.2.2.1
theorem X9 (sp tn : Int) (X : List UInt8) : (Lr sp tn X).length ≤ X.length := by
 unfold Lr; split
 ·rw [List.length_take]; omega
 ·exact Nat.le_refl _
theorem Kl (ks : List Bt) : ∀ (E : List Ak) (s : List UInt8), Av s (E.map (Vv ks)) = (Av s E).map fun v => (v.1.take (F5 ks s (bs v.1) v.2).toNat, F5 ks s (bs v.1) v.2)
 | [], _ => rfl
 | (j, v) :: r, s => by
  simp only [List.map_cons, Av, Vv]
  cases h : s == j
  ·simpa using Kl ks r s
  ·simp only [beq_iff_eq] at h; subst h; simp
end Go.LS
set_option linter.unusedVariables false
namespace Go.LS
def Qe (n : Nat) : Nat := if n % 2 = 1 then (n / 2) ^^^ 3988292384 else n / 2
def Vx : Nat → Nat → Nat
 | 0, x => x
 | k + 1, x => Vx k (Qe x)
def R5 : Nat → List UInt8 → Nat
 | x, [] => x
 | x, c :: r => R5 (Vx 8 (x ^^^ c.toNat)) r
def Ct (L : List UInt8) : Nat := 4294967295 ^^^ R5 4294967295 L
theorem Hk {a b : Nat} (ha : a < 4294967296) (hb : b < 4294967296) : a ^^^ b < 4294967296 := Nat.xor_lt_two_pow (n := 32) ha hb
theorem U0 {x : Nat} (h : x < 4294967296) : Qe x < 4294967296 := by
 unfold Qe
 split
 ·exact Hk (by omega) (by omega)
 ·omega
theorem U1 : ∀ k {x : Nat}, x < 4294967296 → Vx k x < 4294967296
 | 0, _, h => h
 | k + 1, _, h => U1 k (U0 h)
theorem Qf : ∀ (L : List UInt8) {x : Nat}, x < 4294967296 → R5 x L < 4294967296
 | [], _, h => h
 | c :: r, _, h => Qf r (U1 8 (Hk h (by have := c.toNat_lt; omega)))
theorem Pa : ∀ (L : List UInt8) (x : Nat) (c : UInt8), R5 x (L ++ [c]) = Vx 8 (R5 x L ^^^ c.toNat)
 | [], _, _ => rfl
 | d :: r, x, c => Pa r _ c
theorem Gb {n : Nat} (h : n < 4294967296) : IntKind.wrap .u32 (n : Int) = (n : Int) := by
 simp only [IntKind.wrap, IntKind.bits, IntKind.signed]
 simp
 omega
theorem Ya {a b : Nat} (ha : a < 4294967296) (hb : b < 4294967296) :
  IntKind.wrap .u32 ↑(BitVec.ofInt (IntKind.bits .u32) (a : Int) ^^^ BitVec.ofInt (IntKind.bits .u32) (b : Int)).toNat = ((a ^^^ b : Nat) : Int) := by
 have : (BitVec.ofInt (IntKind.bits .u32) (a : Int) ^^^ BitVec.ofInt (IntKind.bits .u32) (b : Int)).toNat = a ^^^ b := by
  show (BitVec.ofInt 32 (a : Int) ^^^ BitVec.ofInt 32 (b : Int)).toNat = a ^^^ b
  rw [BitVec.toNat_xor, BitVec.toNat_ofInt, BitVec.toNat_ofInt]
  congr 1 <;> omega
 rw [this, Gb (Hk ha hb)]
theorem U2 {a : Nat} (ha : a < 4294967296) :
  IntKind.wrap .u32 ↑(BitVec.ofInt (IntKind.bits .u32) (a : Int) &&& BitVec.ofInt (IntKind.bits .u32) 1).toNat = ((a % 2 : Nat) : Int) := by
 have : (BitVec.ofInt (IntKind.bits .u32) (a : Int) &&& BitVec.ofInt (IntKind.bits .u32) 1).toNat = a % 2 := by
  show (BitVec.ofInt 32 (a : Int) &&& BitVec.ofInt 32 1).toNat = a % 2
  rw [BitVec.toNat_and, BitVec.toNat_ofInt, BitVec.toNat_ofInt]
  have e1 : ((a : Int) % ((2 ^ 32 : Nat) : Int)).toNat = a := by omega
  have e2 : ((1 : Int) % ((2 ^ 32 : Nat) : Int)).toNat = 1 := by omega
  rw [e1, e2, Nat.and_one_is_mod]
 rw [this, Gb (by omega)]
theorem fdiv2 (u : Nat) : Int.fdiv (u : Int) (2 ^ 1) = ((u / 2 : Nat) : Int) := by
 rw [show (2 : Int) ^ 1 = 2 from rfl, Int.fdiv_eq_ediv_of_nonneg _ (by omega)]; rfl
theorem not32 {a : Nat} (ha : a < 4294967296) :
  IntKind.wrap .i64 (IntKind.wrap .u32 ↑(BitVec.ofInt (IntKind.bits .u32) 4294967295 ^^^ BitVec.ofInt (IntKind.bits .u32) (a : Int)).toNat) = ((4294967295 ^^^ a : Nat) : Int) := by
 have := Ya (a := 4294967295) (b := a) (by omega) ha
 rw [show ((4294967295 : Nat) : Int) = 4294967295 from rfl] at this
 have h2 := Hk (a := 4294967295) (by omega) ha
 rw [this, Aw (by omega) (by omega)]
theorem u8_32 (c : UInt8) : IntKind.wrap .u32 (c.toNat : Int) = (c.toNat : Int) := Gb (by have := c.toNat_lt; omega)
def C1 (n : Nat) : List UInt8 := [UInt8.ofNat n, UInt8.ofNat (n / 256), UInt8.ofNat (n / 65536), UInt8.ofNat (n / 16777216)]
theorem Od (n : Nat) : UInt8.ofNat (Int.toNat (IntKind.wrap .u8 (n : Int))) = UInt8.ofNat n := by
 have : IntKind.wrap .u8 (n : Int) = ((n % 256 : Nat) : Int) := by
  simp only [IntKind.wrap, IntKind.bits, IntKind.signed]
  simp
 rw [this, Int.toNat_natCast]
 apply UInt8.toNat_inj.1
 simp
theorem fdiv8 (u k : Nat) : Int.fdiv (u : Int) (2 ^ k) = ((u / 2 ^ k : Nat) : Int) := by
 rw [Int.fdiv_eq_ediv_of_nonneg _ (Int.pow_nonneg (by omega))]
 push_cast; rfl
end Go.LS
set_option linter.unusedVariables false
set_option linter.unusedSimpArgs false
namespace Go.LS
theorem Ma {n M : Int} (h : n ≤ M) : Ao n ≤ M := by unfold Ao; split <;> omega
theorem N0 (s : List UInt8) : ∀ E : List Ak, (B2 s E).Sublist E
 | [] => List.Sublist.slnil
 | (j, v) :: r => by
  simp only [B2]
  split
  ·exact List.sublist_cons_self _ _
  ·exact (N0 s r).cons_cons _
theorem So {E : List Ak} (h : OKE E) (s : List UInt8) : OKE (B2 s E) :=
 ⟨fun e he => h.1 e ((N0 s E).subset he), ((N0 s E).map _).nodup h.2⟩
theorem Gc {s t : List UInt8} (h : t ≠ s) : ∀ E : List Ak, Av t (B2 s E) = Av t E
 | [] => rfl
 | (j, v) :: r => by
  simp only [B2]
  split
  ·rename_i e; simp only [beq_iff_eq] at e; subst e; simp [Av, h]
  ·simp only [Av]; rw [Gc h r]
theorem N1 {s : List UInt8} : ∀ {E : List Ak}, s ∉ E.map (·.1) → Av s E = none
 | [], _ => rfl
 | (j, v) :: r, h => by
  simp only [List.map_cons, List.mem_cons, not_or] at h
  simp only [Av]
  rw [if_neg (by simpa using h.1)]
  exact N1 h.2
theorem Pe {s : List UInt8} : ∀ {E : List Ak}, (E.map (·.1)).Nodup → Av s (B2 s E) = none
 | [], _ => rfl
 | (j, v) :: r, h => by
  simp only [List.map_cons, List.nodup_cons] at h
  simp only [B2]
  split
  ·rename_i e; simp only [beq_iff_eq] at e; subst e; exact N1 h.1
  ·rename_i e; simp only [Av, e]; exact Pe h.2
theorem Kq {s : List UInt8} {E : List Ak} (h : Av s E = none) : Bj s E = false := by simp [Bj, h]
theorem Dv {s : List UInt8} {E : List Ak} {v} (h : Av s E = some v) : Bj s E = true := by simp [Bj, h]
structure T8 (s : List UInt8) (E : List Ak) (r : Int × List Ak × Int × Bool) : Prop where
 oke : OKE r.2.1
 s1 : r.2.2.1 ≤ 9223372036854775807
 other : ∀ t, t ≠ s → Av t r.2.1 = Av t E
section
variable {E : List Ak} {sp tn : Int} {off : Bool} {s X : List UInt8}
theorem Sq (sp tn : Int) (X : List UInt8) : Lr sp tn X <+: X := by
 unfold Lr; split
 ·exact List.take_prefix _ _
 ·exact List.prefix_refl _
theorem Fs (hE : OKE E) (hs : sp ≤ 9223372036854775807) : T8 s E (A0 E sp tn off s X) := by
 have hd := Ma hs
 have hc := X9 sp tn X
 obtain ⟨g1, g2, g3⟩ := Hj hE s
 have h0 : ∀ c b, T8 s E (c, E, sp, b) := fun c b => ⟨hE, hs, fun _ _ => rfl⟩
 unfold A0
 split
 ·exact h0 _ _
 split
 ·split
  ·split
   ·exact h0 _ _
   ·exact ⟨Jt hE g1 (by simp only [List.length_append]; omega) (by simp only [List.length_append]; omega), hd, fun t ht => Cn ht⟩
  ·split
   ·exact h0 _ _
   ·split
    ·exact h0 _ _
    ·exact ⟨Jt hE (by omega) (by omega) (by omega), hd, fun t ht => Cn ht⟩
 ·exact h0 _ _
theorem N2 (hn : Av s E = none) (h0 : (A0 E sp tn off s X).1 = 0) : Av s (A0 E sp tn off s X).2.1 = some (X, 0) := by
 have hf := Kq hn
 unfold A0 at h0 ⊢
 split at h0
 ·simp at h0
 split at h0
 ·rw [if_neg (by simp [hf])] at h0
  rename_i a b
  rw [if_neg a, if_pos b, if_neg (by simp [hf])]
  split at h0
  ·simp at h0
  ·rename_i c
   rw [if_neg c]
   split at h0
   ·simp at h0
   ·rename_i d
    rw [if_neg d]
    simp only at h0
    split at h0
    ·simp at h0
    ·rename_i e
     simp only [Lr, if_neg e]
     exact Ds
 ·simp at h0
theorem Wf (hn : Av s E = none) : Av s (A0 E sp tn off s X).2.1 = none ∨ ∃ Y, Y <+: X ∧ Av s (A0 E sp tn off s X).2.1 = some (Y, 0) := by
 have hf := Kq hn
 unfold A0
 split
 ·exact .inl hn
 split
 ·rw [if_neg (by simp [hf])]
  split
  ·exact .inl hn
  ·split
   ·exact .inl hn
   ·exact .inr ⟨_, Sq sp tn X, Ds⟩
 ·exact .inl hn
theorem Pf {M : List UInt8} {u : Int} (hn : Av s E = some (M, u)) : ∃ Y, Y <+: X ∧ Av s (A0 E sp tn off s X).2.1 = some (M ++ Y, u) ∧ ((A0 E sp tn off s X).1 = 0 → Y = X) := by
 have hf := Dv hn
 have hg : Ad s E = (M, u) := by simp [Ad, hn]
 have h0 : ∀ c : Int, c ≠ 0 → ∃ Y, Y <+: X ∧ Av s E = some (M ++ Y, u) ∧ (c = 0 → Y = X) := fun c h => ⟨[], List.nil_prefix, by simpa using hn, fun h' => absurd h' h⟩
 unfold A0
 split
 ·exact h0 90 (by omega)
 split
 ·split
  ·exact h0 2 (by omega)
  ·refine ⟨_, Sq sp tn X, ?_, fun h => ?_⟩
   ·rw [hg]; exact Ds
   ·simp only at h
    split at h
    ·simp at h
    ·rename_i e; simp only [Lr, if_neg e]
 ·exact h0 1 (by omega)
theorem Gd (hE : OKE E) (hs : sp ≤ 9223372036854775807) : T8 s E (Bo E sp tn off s) := by
 have hd := Ma hs
 obtain ⟨g1, g2, g3⟩ := Hj hE s
 have h0 : ∀ c b, T8 s E (c, E, sp, b) := fun c b => ⟨hE, hs, fun _ _ => rfl⟩
 unfold Bo
 split
 ·exact h0 _ _
 split
 ·split
  ·split
   ·exact ⟨hE, hd, fun _ _ => rfl⟩
   ·exact ⟨Jt hE (by omega) (by omega) g3, hd, fun t ht => Cn ht⟩
  ·exact h0 _ _
 ·exact h0 _ _
theorem Iu {M : List UInt8} {u : Int} (hn : Av s E = some (M, u)) : ((Bo E sp tn off s).1 = 0 ∧ Av s (Bo E sp tn off s).2.1 = some (M, (M.length : Int))) ∨ ((Bo E sp tn off s).1 ≠ 0 ∧ Av s (Bo E sp tn off s).2.1 = some (M, u)) := by
 have hf := Dv hn
 have hg : Ad s E = (M, u) := by simp [Ad, hn]
 unfold Bo
 split
 ·exact .inr ⟨by simp, hn⟩
 split
 ·split
  ·exact .inr ⟨by simp, hn⟩
  ·rw [hg]; exact .inl ⟨rfl, Ds⟩
 ·exact .inr ⟨by simp, hn⟩
theorem Wg (hE : OKE E) (hs : sp ≤ 9223372036854775807) : T8 s E (Ga E sp tn off s) := by
 have hd := Ma hs
 have h0 : ∀ c b, T8 s E (c, E, sp, b) := fun c b => ⟨hE, hs, fun _ _ => rfl⟩
 unfold Ga
 split
 ·exact h0 _ _
 split
 ·split
  ·split
   ·exact ⟨hE, hd, fun _ _ => rfl⟩
   ·exact ⟨So hE s, hd, fun t ht => Gc ht E⟩
  ·exact h0 _ _
 ·exact h0 _ _
theorem Wh {z : List UInt8} (hE : OKE E) (hs : sp ≤ 9223372036854775807) : OKE (Cz E sp tn off s z).2.1 ∧ (Cz E sp tn off s z).2.2.1 ≤ 9223372036854775807 ∧ ∀ t, t ≠ s → t ≠ z → Av t (Cz E sp tn off s z).2.1 = Av t E := by
 have hd := Ma hs
 obtain ⟨g1, g2, g3⟩ := Hj hE s
 unfold Cz
 split
 ·exact ⟨hE, hs, fun _ _ _ => rfl⟩
 split
 ·split
  ·split
   ·split
    ·exact ⟨hE, hs, fun _ _ _ => rfl⟩
    ·split
     ·exact ⟨hE, hd, fun _ _ _ => rfl⟩
     ·exact ⟨Jt (So hE s) g1 g2 g3, hd, fun t h1 h2 => by rw [Cn h2, Gc h1]⟩
   ·exact ⟨hE, hs, fun _ _ _ => rfl⟩
  ·exact ⟨hE, hs, fun _ _ _ => rfl⟩
 ·exact ⟨hE, hs, fun _ _ _ => rfl⟩
theorem Y6 {z : List UInt8} {v} (hn : Av s E = some v) : ((Cz E sp tn off s z).1 = 0 ∧ Av z (Cz E sp tn off s z).2.1 = some v) ∨ ((Cz E sp tn off s z).1 ≠ 0 ∧ (Cz E sp tn off s z).2.1 = E) := by
 have hf := Dv hn
 have hg : Ad s E = v := by simp [Ad, hn]
 unfold Cz
 split
 ·exact .inr ⟨by simp, rfl⟩
 split
 ·split
  ·split
   ·exact .inr ⟨by simp, rfl⟩
   ·split
    ·exact .inr ⟨by simp, rfl⟩
    ·rw [hg]; exact .inl ⟨rfl, Ds⟩
  ·exact .inr ⟨by simp, rfl⟩
 ·exact .inr ⟨by simp, rfl⟩
end
def Df (E : List Ak) (sp tn : Int) (off : Bool) (nw s X : List UInt8) : Int × List Ak × Int × Bool :=
 let a := A0 E sp tn off nw X
 if (a.1 == 0) = true then
  let b := Bo a.2.1 a.2.2.1 tn a.2.2.2 nw
  if (b.1 == 0) = true then Cz b.2.1 b.2.2.1 tn b.2.2.2 nw s else b
 else a
def Iv (E : List Ak) (sp tn : Int) (off : Bool) (s : List UInt8) : Int × List Ak × Int × Bool :=
 let a := Ga E sp tn off s
 (if (a.1 == 4) = true then 0 else a.1, a.2)
section
variable {E : List Ak} {sp tn : Int} {off : Bool} {nw s X : List UInt8}
theorem Wi (hE : OKE E) (hs : sp ≤ 9223372036854775807) : T8 s E (Iv E sp tn off s) := by
 have := Wg (tn := tn) (off := off) (s := s) hE hs
 exact ⟨this.oke, this.s1, this.other⟩
theorem repF_ok (hE : OKE E) (hs : sp ≤ 9223372036854775807) (hne : s ≠ nw) :
  OKE (Df E sp tn off nw s X).2.1 ∧ (Df E sp tn off nw s X).2.2.1 ≤ 9223372036854775807 ∧ (∀ t, t ≠ nw → t ≠ s → Av t (Df E sp tn off nw s X).2.1 = Av t E) ∧
  (Av nw E = none → ((Df E sp tn off nw s X).1 = 0 ∧ Av s (Df E sp tn off nw s X).2.1 = some (X, (X.length : Int))) ∨ ((Df E sp tn off nw s X).1 ≠ 0 ∧ Av s (Df E sp tn off nw s X).2.1 = Av s E)) := by
 have ka := Fs (tn := tn) (off := off) (s := nw) (X := X) hE hs
 have kb := Gd (tn := tn) (off := (A0 E sp tn off nw X).2.2.2) (s := nw) ka.oke ka.s1
 have kc := Wh (tn := tn) (off := (Bo (A0 E sp tn off nw X).2.1 (A0 E sp tn off nw X).2.2.1 tn (A0 E sp tn off nw X).2.2.2 nw).2.2.2) (s := nw) (z := s) kb.oke kb.s1
 simp only [Df]
 by_cases h1 : ((A0 E sp tn off nw X).1 == 0) = true
 ·rw [if_pos h1]
  by_cases h2 : ((Bo (A0 E sp tn off nw X).2.1 (A0 E sp tn off nw X).2.2.1 tn (A0 E sp tn off nw X).2.2.2 nw).1 == 0) = true
  ·rw [if_pos h2]
   refine ⟨kc.1, kc.2.1, fun t h3 h4 => by rw [kc.2.2 t h3 h4, kb.other t h3, ka.other t h3], fun hn => ?_⟩
   have e1 := N2 hn (by simpa using h1)
   rcases Iu (sp := (A0 E sp tn off nw X).2.2.1) (tn := tn) (off := (A0 E sp tn off nw X).2.2.2) e1 with ⟨_, e2⟩ | ⟨e2, _⟩
   ·rcases Y6 (sp := (Bo (A0 E sp tn off nw X).2.1 (A0 E sp tn off nw X).2.2.1 tn (A0 E sp tn off nw X).2.2.2 nw).2.2.1) (tn := tn) (off := (Bo (A0 E sp tn off nw X).2.1 (A0 E sp tn off nw X).2.2.1 tn (A0 E sp tn off nw X).2.2.2 nw).2.2.2) (z := s) e2 with e3 | ⟨e3, e4⟩
    ·exact .inl e3
    ·refine .inr ⟨e3, ?_⟩
     rw [e4, kb.other s hne, ka.other s hne]
   ·exact absurd (by simpa using h2) e2
  ·rw [if_neg h2]
   refine ⟨kb.oke, kb.s1, fun t h3 h4 => by rw [kb.other t h3, ka.other t h3], fun hn => .inr ⟨by simpa using h2, by rw [kb.other s hne, ka.other s hne]⟩⟩
 ·rw [if_neg h1]
  exact ⟨ka.oke, ka.s1, fun t h3 h4 => ka.other t h3, fun hn => .inr ⟨by simpa using h1, ka.other s hne⟩⟩
end
theorem T9 {E : List Ak} {s : List UInt8} (h : Av s E = none) (l : List Bt) : Av s (C0 l E) = none := by
 unfold C0
 rw [Kl, h]; rfl
theorem Wj {E : List Ak} (hE : OKE E) (l : List Bt) : OKE (C0 l E) := by
 have hkk : kOk (H6 l []) := Nh (by intro x hx; cases hx)
 refine ⟨fun e he => ?_, ?_⟩
 ·obtain ⟨x, hx, rfl⟩ := List.mem_map.1 he
  obtain ⟨o1, o2, o3⟩ := hE.1 x hx
  obtain ⟨c1, c2⟩ := Qb (ks := H6 l []) (s := x.1) (B := bs x.2.1) (u := x.2.2) hkk o1 (by rw [A6]; exact o2)
  rw [A6] at c2
  simp only [Vv, List.length_take]
  exact ⟨by omega, by omega, by omega⟩
 ·have : (C0 l E).map (·.1) = E.map (·.1) := by
   unfold C0; rw [List.map_map]; rfl
  rw [this]; exact hE.2
theorem Wk {E : List Ak} (hE : OKE E) {s M : List UInt8} {u : Int} (h : Av s E = some (M, u)) (l : List Bt) : ∃ n : Nat, u ≤ (n : Int) ∧ n ≤ M.length ∧ Av s (C0 l E) = some (M.take n, (n : Int)) := by
 obtain ⟨o1, o2, o3⟩ := hE.1 _ (Fp h)
 simp only at o1 o2 o3
 have hk : kOk (H6 l []) := Nh (by intro x hx; cases hx)
 obtain ⟨c1, c2⟩ := Qb (ks := H6 l []) (s := s) (B := bs M) (u := u) hk o1 (by rw [A6]; exact o2)
 rw [A6] at c2
 refine ⟨(F5 (H6 l []) s (bs M) u).toNat, by omega, by omega, ?_⟩
 unfold C0
 rw [Kl, h, Option.map_some]
 simp only [Option.some.injEq, Prod.mk.injEq, true_and]
 omega
section
variable {E : List Ak} {sp tn : Int} {off : Bool} {nw s X : List UInt8}
theorem Ua (hn : nmB s = true) : (Iv E (-1) tn false s).1 = 0 ∧ (Iv E (-1) tn false s).2.2 = (-1, false) := by
 by_cases hf : Bj s E = true <;> simp [Iv, Ga, hn, hf, Ao]
theorem Sr (h : (A0 E sp tn off s X).1 ≠ 0) : (A0 E sp tn off s X).1 = 90 ∨ (A0 E sp tn off s X).2.1 = E := by
 unfold A0 at h ⊢
 split
 ·exact .inl rfl
 split
 ·split
  ·split
   ·exact .inr rfl
   ·rename_i a b c d; rw [if_neg a, if_pos b, if_pos c, if_neg d] at h
    simp only at h ⊢
    split
    ·exact .inl rfl
    ·rename_i e; rw [if_neg e] at h; exact absurd rfl h
  ·split
   ·exact .inr rfl
   ·split
    ·exact .inr rfl
    ·rename_i a b c d f; rw [if_neg a, if_pos b, if_neg c, if_neg d, if_neg f] at h
     simp only at h ⊢
     split
     ·exact .inl rfl
     ·rename_i e; rw [if_neg e] at h; exact absurd rfl h
 ·exact .inr rfl
theorem Pg (hn : nmB s = true) (hf : Bj s E = true) (h : (Bo E sp tn off s).1 ≠ 0) : (Bo E sp tn off s).1 = 90 := by
 by_cases ho : off = true
 ·simp [Bo, ho]
 by_cases h0 : (sp == 0) = true
 ·simp [Bo, ho, hn, hf, beq_iff_eq.1 h0]
 ·simp [Bo, ho, hn, hf, show sp ≠ 0 by simpa using h0] at h
theorem Y7 {z : List UInt8} (hn : nmB s = true) (hz : nmB z = true) (hne : s ≠ z) (hf : Bj s E = true) (h : (Cz E sp tn off s z).1 ≠ 0) : (Cz E sp tn off s z).1 = 90 := by
 by_cases ho : off = true
 ·simp [Cz, ho]
 by_cases h0 : (sp == 0) = true
 ·simp [Cz, ho, hn, hz, hf, hne, beq_iff_eq.1 h0]
 ·simp [Cz, ho, hn, hz, hf, hne, show sp ≠ 0 by simpa using h0] at h
theorem Y8 (hw : nmB nw = true) (hn : nmB s = true) (hne : nw ≠ s) (hf : Av nw E = none) (h : (Df E sp tn off nw s X).1 ≠ 0) : (Df E sp tn off nw s X).1 = 90 ∨ (Df E sp tn off nw s X).2.1 = E := by
 simp only [Df] at h ⊢
 by_cases h1 : ((A0 E sp tn off nw X).1 == 0) = true
 ·rw [if_pos h1] at h ⊢
  have e1 := N2 hf (by simpa using h1)
  by_cases h2 : ((Bo (A0 E sp tn off nw X).2.1 (A0 E sp tn off nw X).2.2.1 tn (A0 E sp tn off nw X).2.2.2 nw).1 == 0) = true
  ·rw [if_pos h2] at h ⊢
   rcases Iu (sp := (A0 E sp tn off nw X).2.2.1) (tn := tn) (off := (A0 E sp tn off nw X).2.2.2) e1 with ⟨_, e2⟩ | ⟨e2, _⟩
   ·exact .inl (Y7 hw hn hne (Dv e2) h)
   ·exact absurd (by simpa using h2) e2
  ·rw [if_neg h2] at h ⊢
   exact .inl (Pg hw (Dv e1) h)
 ·rw [if_neg h1] at h ⊢
  exact Sr h
theorem Y9 (hE : OKE E) (hs : sp ≤ 9223372036854775807) (hne : nw ≠ s) (hf : Av nw E = none) (h : (Df E sp tn off nw s X).1 = 0) : Av nw (Df E sp tn off nw s X).2.1 = none := by
 have ka := Fs (tn := tn) (off := off) (s := nw) (X := X) hE hs
 have kb := Gd (tn := tn) (off := (A0 E sp tn off nw X).2.2.2) (s := nw) ka.oke ka.s1
 simp only [Df] at h ⊢
 by_cases h1 : ((A0 E sp tn off nw X).1 == 0) = true
 ·rw [if_pos h1] at h ⊢
  by_cases h2 : ((Bo (A0 E sp tn off nw X).2.1 (A0 E sp tn off nw X).2.2.1 tn (A0 E sp tn off nw X).2.2.2 nw).1 == 0) = true
  ·rw [if_pos h2] at h ⊢
   have hk := kb.oke
   revert h hk
   generalize (Bo (A0 E sp tn off nw X).2.1 (A0 E sp tn off nw X).2.2.1 tn (A0 E sp tn off nw X).2.2.2 nw) = d
   intro h hk
   unfold Cz at h ⊢
   split at h
   ·simp at h
   rename_i a; rw [if_neg a]
   split at h
   ·rename_i b; rw [if_pos b]
    split at h
    ·rename_i c; rw [if_pos c]
     split at h
     ·rename_i f; rw [if_pos f]
      split at h
      ·simp at h
      ·rename_i g; rw [if_neg g]
       split at h
       ·simp at h
       ·rename_i i; rw [if_neg i]
        simp only
        rw [Cn hne]
        exact Pe hk.2
     ·simp at h
    ·simp at h
   ·simp at h
  ·rw [if_neg h2] at h; exact absurd (by simpa using h) (by simpa using h2)
 ·rw [if_neg h1] at h; exact absurd (by simpa using h) (by simpa using h1)
end
abbrev OpV := Int × Int × Int × Int × Int × List UInt8 × List Bt
def rowW (o : OpV) : List PV := [.int .i64 o.1, .int .i64 o.2.1, .int .i64 o.2.2.1, .int .i64 o.2.2.2.1, .int .i64 o.2.2.2.2.1, .sl (bs o.2.2.2.2.2.1), .sl (A3 o.2.2.2.2.2.2)]
def Bq (L : List OpV) : List (List PV) := L.map rowW
theorem Kr (L : List OpV) : (Bq L).length = L.length := by simp [Bq]
theorem Cr {L : List OpV} {i : Nat} {o : OpV} (h : L[i]? = some o) : (Bq L)[i]? = some (rowW o) := by simp [Bq, h]
end Go.LS

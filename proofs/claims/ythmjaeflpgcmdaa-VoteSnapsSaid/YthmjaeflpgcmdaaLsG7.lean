/- A small semantics of loaded Go code that the kernel can run, part 7. -/
import Derived.Test.YthmjaeflpgcmdaaLsG6
import Derived.Test.YthmjaeflpgcmdaaLsG5
set_option linter.unusedVariables false
namespace Go.LS
end Go.LS
set_option linter.unusedVariables false
set_option linter.unusedSimpArgs false
namespace Go.LS
theorem Ck {lp : A2} {f : FuncId} {args0 args : List LV} {st st1 st' : List LObj} {r v : LV} (h : Runs lp f args [] (r, st1)) (hw : wk (lp.weak f) args0 = args) (h0 : args.flatMap LV.refs = []) (hr : args.map (LV.ren fun q => ([] : List Nat).idxOf q) = args)
  (hv : r.ren (Ai [] st.length) = v) (hs : st ++ st1.map (LObj.ren (Ai [] st.length)) = st') : An lp f args0 st (v, st') := by
 have hk : Ob lp f args0 st r st1 = some (v, st', Runs lp f args [] (r, st1)) := by
  unfold Ob
  simp only [hw, h0]
  have e1 : Dn st 100000 [] [] = [] := rfl
  rw [e1]
  simp only [hr]
  have e2 : sub st [] = [] := rfl
  have e3 : (C6 st [] && ([] : List Nat).all (([] : List Nat).contains ·) && decide ([] : List Nat).Nodup) = true := rfl
  rw [if_pos e3, if_pos (show ([] : List Nat).length ≤ st1.length from Nat.zero_le _), e2, hv]
  simp only [List.length_nil, List.take_zero, List.map_nil, Cb, List.drop_zero]
  rw [hs]
 obtain ⟨n, hn⟩ := Gz hk h
 exact ⟨n, hn⟩
def oG {lp : A2} {k : Nat} {x : List Bool × Bk} {t1 t t' : List LV} {st1 st st' : List LObj} {o : C2} (_ : gc k t1 st1 = some (t, st)) (_ : LoopN lp k x t st (o, t', st')) : Orc := .lg o t' st' t st
def oA {lp : A2} {f : FuncId} {args : List LV} {st st' : List LObj} {v : LV} (_ : An lp f args st (v, st')) : Orc := .cg v st'
end Go.LS
namespace Go.LS
end Go.LS
namespace Go.LS
end Go.LS
set_option linter.unusedVariables false
set_option linter.unusedSimpArgs false
namespace Go.LS
theorem Ag {lp : A2} {f : FuncId} {args0 args args' : List LV} {st sh st1 st' sub' : List LObj} {r v : LV} {ids : List Nat} (hr : st.map LObj.refs = sh.map LObj.refs) (hw : wk (lp.weak f) args0 = args)
  (hi : Dn sh 100000 (args.flatMap LV.refs) [] = ids) (hc : (C6 sh ids && (args.flatMap LV.refs).all (ids.contains ·) && decide ids.Nodup) = true)
  (ha : args.map (LV.ren fun q => ids.idxOf q) = args') (hs : sub st ids = sub') (h : Runs lp f args' sub' (r, st1)) (hl : decide (ids.length ≤ st1.length) = true) (hv : r.ren (Ai ids st.length) = v)
  (hp : Cb st ids ((st1.take ids.length).map (LObj.ren (Ai ids st.length))) ++ (st1.drop ids.length).map (LObj.ren (Ai ids st.length)) = st') : An lp f args0 st (v, st') := by
 obtain ⟨n, hn⟩ := Runs.at h
 refine ⟨n, fun m hm => ?_⟩
 unfold Bz
 simp only
 rw [Jh, hw, Qw hr, hi, Od hr, if_pos hc, ha, hs, hn m hm]
 simp only
 rw [if_pos (of_decide_eq_true hl), hv, hp]
section
variable {o n size : Nat} {X : List (List PV)} {st : List LObj}
end
end Go.LS
namespace Go.LS
end Go.LS
set_option linter.unusedVariables false
set_option linter.unusedSimpArgs false
namespace Go.LS
def Pt (sp tn : Int) (X : List UInt8) : List UInt8 := if sp == 0 then X.take (Int.toNat (if tn < (X.length : Int) then tn else (X.length : Int))) else X
def Bq (E : List Aq) (sp tn : Int) (off : Bool) (s X : List UInt8) : Int × List Aq × Int × Bool :=
 if off = true then (90, E, sp, off) else if nmB s = true then
  (if Bo s E = true then (if (X.length : Int) > 1048576 - ((Ae s E).1.length : Int) then (2, E, sp, off) else (if sp == 0 then 90 else 0, Bg s ((Ae s E).1 ++ Pt sp tn X) (Ae s E).2 E, Ao sp, sp == 0))
  else if (X.length : Int) > 1048576 then (2, E, sp, off) else if ((E.length : Nat) : Int) == 256 then (2, E, sp, off) else (if sp == 0 then 90 else 0, Bg s (Pt sp tn X) 0 E, Ao sp, sp == 0))
 else (1, E, sp, off)
def B4 (E : List Aq) (sp tn : Int) (off : Bool) (s : List UInt8) : Int × List Aq × Int × Bool :=
 if off = true then (90, E, sp, off) else if nmB s = true then
  (if Bo s E = true then (if (sp == 0) = true then (90, E, Ao sp, sp == 0) else (0, Bg s (Ae s E).1 (((Ae s E).1.length : Nat) : Int) E, Ao sp, sp == 0)) else (4, E, sp, off))
 else (1, E, sp, off)
def K0 (E : List Aq) (sp tn : Int) (off : Bool) (n m : Int) : Int × Int × Int :=
 if off = true then (90, sp, tn) else if decide (n < (-1)) = true then (1, sp, tn) else if decide (m < 0) = true then (1, sp, tn) else (0, n, m)
def Er (E : List Aq) (sp tn : Int) (off : Bool) (s : List UInt8) : Int × List Aq × Int × Bool :=
 if off = true then (90, E, sp, off) else if nmB s = true then
  (if Bo s E = true then (if (sp == 0) = true then (90, E, Ao sp, sp == 0) else (0, Bt s E, Ao sp, sp == 0)) else (4, E, sp, off))
 else (1, E, sp, off)
def Dm (E : List Aq) (sp tn : Int) (off : Bool) (s zz : List UInt8) : Int × List Aq × Int × Bool :=
 if off = true then (90, E, sp, off) else if nmB s = true then if nmB zz = true then
  (if Bo s E = true then (if (s == zz) = true then (1, E, sp, off) else (if (sp == 0) = true then (90, E, Ao sp, sp == 0) else (0, Bg zz (Ae s E).1 (Ae s E).2 (Bt s E), Ao sp, sp == 0))) else (4, E, sp, off))
 else (1, E, sp, off) else (1, E, sp, off)
def Hu : List B1 → List B1 → List B1
 | [], ks => ks
 | (s, n) :: r, ks => Hu r (Jx s (if n < 0 then 0 else n) ks)
theorem Jc : ∀ (l ks : List B1), Fx (A4 l) ks = some (if Bv l = true then some (Hu l ks) else none)
 | [], ks => rfl
 | (s, n) :: r, ks => by
  have ih := Jc r (Jx s (if n < 0 then 0 else n) ks)
  simp only [A4] at ih
  have hkb : Bv ((s, n) :: r) = (nmB s && Bv r) := rfl
  simp only [A4, List.map_cons, Fx, Hu]
  by_cases hb : nmB s = true
  ·rw [show Bv ((s, n) :: r) = Bv r by rw [hkb, hb]; rfl, if_pos hb]
   exact ih
  ·rw [show Bv ((s, n) :: r) = false by rw [hkb]; simp [hb], if_neg hb]; rfl
theorem My : ∀ {l ks : List B1}, kOk ks → kOk (Hu l ks)
 | [], ks, h => h
 | (s, n) :: r, ks, h => My (l := r) (Ph (by split <;> omega) h)
def U7 (ks : List B1) (e : Aq) : Aq := (e.1, e.2.1.take (Fy ks e.1 (bs e.2.1) e.2.2).toNat, Fy ks e.1 (bs e.2.1) e.2.2)
def A5 (l : List B1) (E : List Aq) : List Aq := E.map (U7 (Hu l []))
def OKE (E : List Aq) : Prop := (∀ e ∈ E, 0 ≤ e.2.2 ∧ e.2.2 ≤ (e.2.1.length : Int) ∧ e.2.1.length ≤ 1048576) ∧ (E.map (·.1)).Nodup
theorem Mz : ∀ {E : List Aq}, (∀ e ∈ E, 0 ≤ e.2.2 ∧ e.2.2 ≤ (e.2.1.length : Int) ∧ e.2.1.length ≤ 1048576) → H4 (kvF E) = some (E.map fun e => (e.1, bs e.2.1, e.2.2))
 | [], _ => rfl
 | e :: r, h => by
  have ih := Mz (E := r) (fun x hx => h x (List.mem_cons_of_mem _ hx))
  obtain ⟨h1, h2, _⟩ := h e List.mem_cons_self
  simp only [kvF] at ih
  have hc : ((bs e.2.1).all fun x => x.length == 1) = true := Ms e.2.1 1 rfl
  have h3 : decide (e.2.2 ≤ ((bs e.2.1).length : Int)) = true := by rw [A9]; simpa using h2
  simp only [kvF, List.map_cons, H4, Hs, Qq, LV.asSl, hc, h3, decide_eq_true h1, Bool.and_self, if_true, ih]
theorem S7 (ks : List B1) (E : List Aq) : (E.map fun e => (e.1, bs e.2.1, e.2.2)).map (Cm ks) = kvF (E.map (U7 ks)) := by
 simp only [kvF, List.map_map]
 refine List.map_congr_left fun e _ => ?_
 simp only [Function.comp, Cm, Hs, U7, Pn]
theorem Or : ∀ {l : List (List UInt8)}, l.Nodup → Gr l = true
 | [], _ => rfl
 | x :: r, h => by
  obtain ⟨h1, h2⟩ := List.nodup_cons.1 h
  simp only [Gr, Or h2, Bool.and_true, Bool.not_eq_true', List.any_eq_false, Lm, Bool.and_eq_true, decide_eq_true_eq, not_and]
  intro y hy ha hb
  exact h1 (List.le_antisymm ha hb ▸ hy)
theorem S8 {E : List Aq} (hE : OKE E) {sp tn : Int} {off : Bool} {l : List B1} :
  H5 [.ptr 0 0 0, .p (.sl (A4 l))] (dS E sp tn off) = some (if Bv l = true then (.p (.int .i64 0), dS (A5 l E) (-1) 0 false) else (.p (.int .i64 1), dS E sp tn off)) := by
 have hn : Gr ((E.map fun e => ((e.1, bs e.2.1, e.2.2) : Ent)).map (·.1)) = true := by
  rw [List.map_map]; exact Or hE.2
 simp only [H5, LV.asSl, dS, List.getElem?_cons_zero, List.getElem?_cons_succ, Jc]
 cases hk : Bv l
 ·simp
 ·simp only [if_true, Mz hE.1, hn, S7]
  rfl
theorem J4 : ∀ {E : List Aq} {s : List UInt8} {v}, A6 s E = some v → (s, v) ∈ E
 | [], _, _, h => by cases h
 | (j, w) :: r, s, v, h => by
  simp only [A6] at h
  split at h
  ·rename_i e; simp only [beq_iff_eq] at e; cases h; subst e; exact List.mem_cons_self
  ·exact List.mem_cons_of_mem _ (J4 h)
theorem M0 : ∀ {E : List Aq} {s M : List UInt8} {u : Int} {e : Aq}, e ∈ Bg s M u E → e = (s, M, u) ∨ e ∈ E
 | [], _, _, _, _, h => by simp [Bg] at h; exact .inl h
 | (j, w) :: r, s, M, u, e, h => by
  simp only [Bg] at h
  split at h
  ·rcases List.mem_cons.1 h with rfl | h
   ·exact .inl rfl
   ·exact .inr (List.mem_cons_of_mem _ h)
  ·rcases List.mem_cons.1 h with rfl | h
   ·exact .inr List.mem_cons_self
   ·exact (M0 h).imp id (List.mem_cons_of_mem _)
theorem Ot : ∀ {E : List Aq} {s M : List UInt8} {u : Int}, (E.map (·.1)).Nodup → ((Bg s M u E).map (·.1)).Nodup
 | [], s, M, u, _ => by simp [Bg]
 | (j, w) :: r, s, M, u, h => by
  simp only [List.map_cons, List.nodup_cons] at h
  simp only [Bg]
  split
  ·rename_i e; simp only [beq_iff_eq] at e; subst e
   simpa using h
  ·rename_i e
   simp only [List.map_cons, List.nodup_cons]
   refine ⟨fun hm => ?_, Ot h.2⟩
   obtain ⟨x, hx, hxe⟩ := List.mem_map.1 hm
   rcases M0 hx with rfl | hx
   ·simp only at hxe; subst hxe; simp at e
   ·exact h.1 (List.mem_map.2 ⟨x, hx, hxe⟩)
theorem Jd {E : List Aq} (h : OKE E) {s M : List UInt8} {u : Int} (h1 : 0 ≤ u) (h2 : u ≤ (M.length : Int)) (h3 : M.length ≤ 1048576) : OKE (Bg s M u E) :=
 ⟨fun e he => by
  rcases M0 he with rfl | he
  ·exact ⟨h1, h2, h3⟩
  ·exact h.1 e he, Ot h.2⟩
theorem Hb {E : List Aq} (h : OKE E) (s : List UInt8) : 0 ≤ (Ae s E).2 ∧ (Ae s E).2 ≤ ((Ae s E).1.length : Int) ∧ (Ae s E).1.length ≤ 1048576 := by
 unfold Ae
 cases e : A6 s E with
 | none => simp
 | some v => exact h.1 _ (J4 e)
theorem Fi : ∀ {E : List Aq} {s M : List UInt8} {u : Int}, A6 s (Bg s M u E) = some (M, u)
 | [], s, M, u => by simp [Bg, A6]
 | (j, w) :: r, s, M, u => by
  simp only [Bg]
  split
  ·simp [A6]
  ·rename_i e; simp only [A6, e]; exact Fi
theorem C1 : ∀ {E : List Aq} {s t M : List UInt8} {u : Int}, t ≠ s → A6 t (Bg s M u E) = A6 t E
 | [], s, t, M, u, h => by simp [Bg, A6, h]
 | (j, w) :: r, s, t, M, u, h => by
  simp only [Bg]
  split
  ·rename_i e; simp only [beq_iff_eq] at e; subst e; simp [A6, h]
  ·simp only [A6]; rw [C1 h]
abbrev DSt := List Aq × Int × Int × Bool
def HasF (b : List UInt8) (E : List Aq) : Prop := ∃ Z u, A6 [102] E = some (b ++ Z, u) ∧ (b.length : Int) ≤ u
theorem HasF.set {b : List UInt8} {E : List Aq} (h : HasF b E) {s M : List UInt8} {u : Int} (hs : s = [102] → ∃ Z, M = b ++ Z ∧ (b.length : Int) ≤ u) : HasF b (Bg s M u E) := by
 by_cases e : s = [102]
 ·subst e
  obtain ⟨Z, rfl, hu⟩ := hs rfl
  exact ⟨Z, u, Fi, hu⟩
 ·obtain ⟨Z, v, h1, h2⟩ := h
  exact ⟨Z, v, by rw [C1 (Ne.symm e)]; exact h1, h2⟩
structure DInv (b : List UInt8) (d : DSt) : Prop where
 oke : OKE d.1
 has : HasF b d.1
 s0 : -1 ≤ d.2.1
 s1 : d.2.1 ≤ 9223372036854775807
 t0 : 0 ≤ d.2.2.1
theorem Xj (sp tn : Int) (X : List UInt8) : (Pt sp tn X).length ≤ X.length := by
 unfold Pt; split
 ·rw [List.length_take]; omega
 ·exact Nat.le_refl _
theorem J5 (ks : List B1) : ∀ (E : List Aq) (s : List UInt8), A6 s (E.map (U7 ks)) = (A6 s E).map fun v => (v.1.take (Fy ks s (bs v.1) v.2).toNat, Fy ks s (bs v.1) v.2)
 | [], _ => rfl
 | (j, v) :: r, s => by
  simp only [List.map_cons, A6, U7]
  cases h : s == j
  ·simpa using J5 ks r s
  ·simp only [beq_iff_eq] at h; subst h; simp
end Go.LS
set_option linter.unusedVariables false
namespace Go.LS
def Pu (n : Nat) : Nat := if n % 2 = 1 then (n / 2) ^^^ 3988292384 else n / 2
def U9 : Nat → Nat → Nat
 | 0, x => x
 | k + 1, x => U9 k (Pu x)
def Rf : Nat → List UInt8 → Nat
 | x, [] => x
 | x, c :: r => Rf (U9 8 (x ^^^ c.toNat)) r
def Cr (L : List UInt8) : Nat := 4294967295 ^^^ Rf 4294967295 L
theorem Hc {a b : Nat} (ha : a < 4294967296) (hb : b < 4294967296) : a ^^^ b < 4294967296 := Nat.xor_lt_two_pow (n := 32) ha hb
theorem Ud {x : Nat} (h : x < 4294967296) : Pu x < 4294967296 := by
 unfold Pu
 split
 ·exact Hc (by omega) (by omega)
 ·omega
theorem Ue : ∀ k {x : Nat}, x < 4294967296 → U9 k x < 4294967296
 | 0, _, h => h
 | k + 1, _, h => Ue k (Ud h)
theorem Pv : ∀ (L : List UInt8) {x : Nat}, x < 4294967296 → Rf x L < 4294967296
 | [], _, h => h
 | c :: r, _, h => Pv r (Ue 8 (Hc h (by have := c.toNat_lt; omega)))
theorem Ou : ∀ (L : List UInt8) (x : Nat) (c : UInt8), Rf x (L ++ [c]) = U9 8 (Rf x L ^^^ c.toNat)
 | [], _, _ => rfl
 | d :: r, x, c => Ou r _ c
theorem F4 {n : Nat} (h : n < 4294967296) : IntKind.wrap .u32 (n : Int) = (n : Int) := by
 simp only [IntKind.wrap, IntKind.bits, IntKind.signed]
 simp
 omega
theorem Xk {a b : Nat} (ha : a < 4294967296) (hb : b < 4294967296) :
  IntKind.wrap .u32 ↑(BitVec.ofInt (IntKind.bits .u32) (a : Int) ^^^ BitVec.ofInt (IntKind.bits .u32) (b : Int)).toNat = ((a ^^^ b : Nat) : Int) := by
 have : (BitVec.ofInt (IntKind.bits .u32) (a : Int) ^^^ BitVec.ofInt (IntKind.bits .u32) (b : Int)).toNat = a ^^^ b := by
  show (BitVec.ofInt 32 (a : Int) ^^^ BitVec.ofInt 32 (b : Int)).toNat = a ^^^ b
  rw [BitVec.toNat_xor, BitVec.toNat_ofInt, BitVec.toNat_ofInt]
  congr 1 <;> omega
 rw [this, F4 (Hc ha hb)]
theorem Uf {a : Nat} (ha : a < 4294967296) :
  IntKind.wrap .u32 ↑(BitVec.ofInt (IntKind.bits .u32) (a : Int) &&& BitVec.ofInt (IntKind.bits .u32) 1).toNat = ((a % 2 : Nat) : Int) := by
 have : (BitVec.ofInt (IntKind.bits .u32) (a : Int) &&& BitVec.ofInt (IntKind.bits .u32) 1).toNat = a % 2 := by
  show (BitVec.ofInt 32 (a : Int) &&& BitVec.ofInt 32 1).toNat = a % 2
  rw [BitVec.toNat_and, BitVec.toNat_ofInt, BitVec.toNat_ofInt]
  have e1 : ((a : Int) % ((2 ^ 32 : Nat) : Int)).toNat = a := by omega
  have e2 : ((1 : Int) % ((2 ^ 32 : Nat) : Int)).toNat = 1 := by omega
  rw [e1, e2, Nat.and_one_is_mod]
 rw [this, F4 (by omega)]
theorem fdiv2 (u : Nat) : Int.fdiv (u : Int) (2 ^ 1) = ((u / 2 : Nat) : Int) := by
 rw [show (2 : Int) ^ 1 = 2 from rfl, Int.fdiv_eq_ediv_of_nonneg _ (by omega)]; rfl
theorem not32 {a : Nat} (ha : a < 4294967296) :
  IntKind.wrap .i64 (IntKind.wrap .u32 ↑(BitVec.ofInt (IntKind.bits .u32) 4294967295 ^^^ BitVec.ofInt (IntKind.bits .u32) (a : Int)).toNat) = ((4294967295 ^^^ a : Nat) : Int) := by
 have := Xk (a := 4294967295) (b := a) (by omega) ha
 rw [show ((4294967295 : Nat) : Int) = 4294967295 from rfl] at this
 have h2 := Hc (a := 4294967295) (by omega) ha
 rw [this, A1 (by omega) (by omega)]
theorem u8_32 (c : UInt8) : IntKind.wrap .u32 (c.toNat : Int) = (c.toNat : Int) := F4 (by have := c.toNat_lt; omega)
def Cy (n : Nat) : List UInt8 := [UInt8.ofNat n, UInt8.ofNat (n / 256), UInt8.ofNat (n / 65536), UInt8.ofNat (n / 16777216)]
theorem Nx (n : Nat) : UInt8.ofNat (Int.toNat (IntKind.wrap .u8 (n : Int))) = UInt8.ofNat n := by
 have : IntKind.wrap .u8 (n : Int) = ((n % 256 : Nat) : Int) := by
  simp only [IntKind.wrap, IntKind.bits, IntKind.signed]
  simp
 rw [this, Int.toNat_natCast]
 apply UInt8.toNat_inj.1
 simp
theorem fdiv8 (u k : Nat) : Int.fdiv (u : Int) (2 ^ k) = ((u / 2 ^ k : Nat) : Int) := by
 rw [Int.fdiv_eq_ediv_of_nonneg _ (Int.pow_nonneg (by omega))]
 push_cast; rfl
end Go.LS
set_option linter.unusedVariables false
set_option linter.unusedSimpArgs false
namespace Go.LS
theorem Lt {n M : Int} (h : n ≤ M) : Ao n ≤ M := by unfold Ao; split <;> omega
theorem Nk (s : List UInt8) : ∀ E : List Aq, (Bt s E).Sublist E
 | [] => List.Sublist.slnil
 | (j, v) :: r => by
  simp only [Bt]
  split
  ·exact List.sublist_cons_self _ _
  ·exact (Nk s r).cons_cons _
theorem R1 {E : List Aq} (h : OKE E) (s : List UInt8) : OKE (Bt s E) :=
 ⟨fun e he => h.1 e ((Nk s E).subset he), ((Nk s E).map _).nodup h.2⟩
theorem F6 {s t : List UInt8} (h : t ≠ s) : ∀ E : List Aq, A6 t (Bt s E) = A6 t E
 | [] => rfl
 | (j, v) :: r => by
  simp only [Bt]
  split
  ·rename_i e; simp only [beq_iff_eq] at e; subst e; simp [A6, h]
  ·simp only [A6]; rw [F6 h r]
theorem Nl {s : List UInt8} : ∀ {E : List Aq}, s ∉ E.map (·.1) → A6 s E = none
 | [], _ => rfl
 | (j, v) :: r, h => by
  simp only [List.map_cons, List.mem_cons, not_or] at h
  simp only [A6]
  rw [if_neg (by simpa using h.1)]
  exact Nl h.2
theorem Ox {s : List UInt8} : ∀ {E : List Aq}, (E.map (·.1)).Nodup → A6 s (Bt s E) = none
 | [], _ => rfl
 | (j, v) :: r, h => by
  simp only [List.map_cons, List.nodup_cons] at h
  simp only [Bt]
  split
  ·rename_i e; simp only [beq_iff_eq] at e; subst e; exact Nl h.1
  ·rename_i e; simp only [A6, e]; exact Ox h.2
theorem Oy {s : List UInt8} {E : List Aq} (h : A6 s E = none) : Bo s E = false := by simp [Bo, h]
theorem Kf {s : List UInt8} {E : List Aq} {v} (h : A6 s E = some v) : Bo s E = true := by simp [Bo, h]
theorem X9 {s : List UInt8} {E : List Aq} (h : ¬ Bo s E = true) : A6 s E = none := by
 unfold Bo at h
 cases e : A6 s E with
 | none => rfl
 | some v => simp [e] at h
structure Tj (s : List UInt8) (E : List Aq) (r : Int × List Aq × Int × Bool) : Prop where
 oke : OKE r.2.1
 s1 : r.2.2.1 ≤ 9223372036854775807
 other : ∀ t, t ≠ s → A6 t r.2.1 = A6 t E
section
variable {E : List Aq} {sp tn : Int} {off : Bool} {s X : List UInt8}
theorem Oz (hE : OKE E) (hs : sp ≤ 9223372036854775807) : Tj s E (Bq E sp tn off s X) := by
 have hd := Lt hs
 have hc := Xj sp tn X
 obtain ⟨g1, g2, g3⟩ := Hb hE s
 have h0 : ∀ c b, Tj s E (c, E, sp, b) := fun c b => ⟨hE, hs, fun _ _ => rfl⟩
 unfold Bq
 split
 ·exact h0 _ _
 split
 ·split
  ·split
   ·exact h0 _ _
   ·exact ⟨Jd hE g1 (by simp only [List.length_append]; omega) (by simp only [List.length_append]; omega), hd, fun t ht => C1 ht⟩
  ·split
   ·exact h0 _ _
   ·split
    ·exact h0 _ _
    ·exact ⟨Jd hE (by omega) (by omega) (by omega), hd, fun t ht => C1 ht⟩
 ·exact h0 _ _
theorem Ya (hn : A6 s E = none) (h0 : (Bq E sp tn off s X).1 = 0) : A6 s (Bq E sp tn off s X).2.1 = some (X, 0) := by
 have hf := Oy hn
 unfold Bq at h0 ⊢
 split at h0
 ·simp at h0
 split at h0
 ·rw [if_neg (by simp [hf])] at h0
  rename_i a b
  rw [if_neg a, if_pos b, if_neg (by simp [hf])]
  split at h0
  ·simp at h0
  ·rename_i c
   rw [if_neg c]
   split at h0
   ·simp at h0
   ·rename_i d
    rw [if_neg d]
    simp only at h0
    split at h0
    ·simp at h0
    ·rename_i e
     simp only [Pt, if_neg e]
     exact Fi
 ·simp at h0
theorem Nm (hE : OKE E) (hs : sp ≤ 9223372036854775807) : Tj s E (B4 E sp tn off s) := by
 have hd := Lt hs
 obtain ⟨g1, g2, g3⟩ := Hb hE s
 have h0 : ∀ c b, Tj s E (c, E, sp, b) := fun c b => ⟨hE, hs, fun _ _ => rfl⟩
 unfold B4
 split
 ·exact h0 _ _
 split
 ·split
  ·split
   ·exact ⟨hE, hd, fun _ _ => rfl⟩
   ·exact ⟨Jd hE (by omega) (by omega) g3, hd, fun t ht => C1 ht⟩
  ·exact h0 _ _
 ·exact h0 _ _
theorem Tk {M : List UInt8} {u : Int} (hn : A6 s E = some (M, u)) : ((B4 E sp tn off s).1 = 0 ∧ A6 s (B4 E sp tn off s).2.1 = some (M, (M.length : Int))) ∨ ((B4 E sp tn off s).1 ≠ 0 ∧ A6 s (B4 E sp tn off s).2.1 = some (M, u)) := by
 have hf := Kf hn
 have hg : Ae s E = (M, u) := by simp [Ae, hn]
 unfold B4
 split
 ·exact .inr ⟨by simp, hn⟩
 split
 ·split
  ·exact .inr ⟨by simp, hn⟩
  ·rw [hg]; exact .inl ⟨rfl, Fi⟩
 ·exact .inr ⟨by simp, hn⟩
theorem Vr (hE : OKE E) (hs : sp ≤ 9223372036854775807) : Tj s E (Er E sp tn off s) := by
 have hd := Lt hs
 have h0 : ∀ c b, Tj s E (c, E, sp, b) := fun c b => ⟨hE, hs, fun _ _ => rfl⟩
 unfold Er
 split
 ·exact h0 _ _
 split
 ·split
  ·split
   ·exact ⟨hE, hd, fun _ _ => rfl⟩
   ·exact ⟨R1 hE s, hd, fun t ht => F6 ht E⟩
  ·exact h0 _ _
 ·exact h0 _ _
theorem Vs (hE : OKE E) (h : (Er E sp tn off s).1 = 0 ∨ (Er E sp tn off s).1 = 4) : A6 s (Er E sp tn off s).2.1 = none := by
 unfold Er at h ⊢
 split
 ·rename_i a; rw [if_pos a] at h; simp at h
 rename_i a; rw [if_neg a] at h
 split
 ·rename_i b; rw [if_pos b] at h
  split
  ·rename_i c; rw [if_pos c] at h
   split
   ·rename_i d; rw [if_pos d] at h; simp at h
   ·exact Ox hE.2
  ·rename_i c; exact X9 c
 ·rename_i b; rw [if_neg b] at h; simp at h
theorem Vt {z : List UInt8} (hE : OKE E) (hs : sp ≤ 9223372036854775807) : OKE (Dm E sp tn off s z).2.1 ∧ (Dm E sp tn off s z).2.2.1 ≤ 9223372036854775807 ∧ ∀ t, t ≠ s → t ≠ z → A6 t (Dm E sp tn off s z).2.1 = A6 t E := by
 have hd := Lt hs
 obtain ⟨g1, g2, g3⟩ := Hb hE s
 unfold Dm
 split
 ·exact ⟨hE, hs, fun _ _ _ => rfl⟩
 split
 ·split
  ·split
   ·split
    ·exact ⟨hE, hs, fun _ _ _ => rfl⟩
    ·split
     ·exact ⟨hE, hd, fun _ _ _ => rfl⟩
     ·exact ⟨Jd (R1 hE s) g1 g2 g3, hd, fun t h1 h2 => by rw [C1 h2, F6 h1]⟩
   ·exact ⟨hE, hs, fun _ _ _ => rfl⟩
  ·exact ⟨hE, hs, fun _ _ _ => rfl⟩
 ·exact ⟨hE, hs, fun _ _ _ => rfl⟩
theorem Yb {z : List UInt8} {v} (hn : A6 s E = some v) : ((Dm E sp tn off s z).1 = 0 ∧ A6 z (Dm E sp tn off s z).2.1 = some v) ∨ ((Dm E sp tn off s z).1 ≠ 0 ∧ (Dm E sp tn off s z).2.1 = E) := by
 have hf := Kf hn
 have hg : Ae s E = v := by simp [Ae, hn]
 unfold Dm
 split
 ·exact .inr ⟨by simp, rfl⟩
 split
 ·split
  ·split
   ·exact .inr ⟨by simp, rfl⟩
   ·split
    ·exact .inr ⟨by simp, rfl⟩
    ·rw [hg]; exact .inl ⟨rfl, Fi⟩
  ·exact .inr ⟨by simp, rfl⟩
 ·exact .inr ⟨by simp, rfl⟩
end
def If (E : List Aq) (sp tn : Int) (off : Bool) (nw s X : List UInt8) : Int × List Aq × Int × Bool :=
 let a := Bq E sp tn off nw X
 if (a.1 == 0) = true then
  let b := B4 a.2.1 a.2.2.1 tn a.2.2.2 nw
  if (b.1 == 0) = true then Dm b.2.1 b.2.2.1 tn b.2.2.2 nw s else b
 else a
def Ga (E : List Aq) (sp tn : Int) (off : Bool) (s : List UInt8) : Int × List Aq × Int × Bool :=
 let a := Er E sp tn off s
 (if (a.1 == 4) = true then 0 else a.1, a.2)
def E5 (E : List Aq) (sp tn : Int) (off : Bool) (nw s X : List UInt8) : Int × List Aq × Int × Bool :=
 let c := Ga E sp tn off nw
 if (c.1 == 0) = true then If c.2.1 c.2.2.1 tn c.2.2.2 nw s X else c
section
variable {E : List Aq} {sp tn : Int} {off : Bool} {nw s X : List UInt8}
theorem O0 (hE : OKE E) (hs : sp ≤ 9223372036854775807) : Tj s E (Ga E sp tn off s) := by
 have := Vr (tn := tn) (off := off) (s := s) hE hs
 exact ⟨this.oke, this.s1, this.other⟩
theorem Vu (hE : OKE E) (h : ((Ga E sp tn off s).1 == 0) = true) : A6 s (Ga E sp tn off s).2.1 = none := by
 refine Vs (tn := tn) (off := off) (s := s) hE ?_
 simp only [Ga, beq_iff_eq] at h
 split at h
 ·rename_i e; exact .inr e
 ·exact .inl h
theorem Zy (hE : OKE E) (hs : sp ≤ 9223372036854775807) (hne : s ≠ nw) :
  OKE (If E sp tn off nw s X).2.1 ∧ (If E sp tn off nw s X).2.2.1 ≤ 9223372036854775807 ∧ (∀ t, t ≠ nw → t ≠ s → A6 t (If E sp tn off nw s X).2.1 = A6 t E) ∧
  (A6 nw E = none → ((If E sp tn off nw s X).1 = 0 ∧ A6 s (If E sp tn off nw s X).2.1 = some (X, (X.length : Int))) ∨ ((If E sp tn off nw s X).1 ≠ 0 ∧ A6 s (If E sp tn off nw s X).2.1 = A6 s E)) := by
 have ka := Oz (tn := tn) (off := off) (s := nw) (X := X) hE hs
 have kb := Nm (tn := tn) (off := (Bq E sp tn off nw X).2.2.2) (s := nw) ka.oke ka.s1
 have kc := Vt (tn := tn) (off := (B4 (Bq E sp tn off nw X).2.1 (Bq E sp tn off nw X).2.2.1 tn (Bq E sp tn off nw X).2.2.2 nw).2.2.2) (s := nw) (z := s) kb.oke kb.s1
 simp only [If]
 by_cases h1 : ((Bq E sp tn off nw X).1 == 0) = true
 ·rw [if_pos h1]
  by_cases h2 : ((B4 (Bq E sp tn off nw X).2.1 (Bq E sp tn off nw X).2.2.1 tn (Bq E sp tn off nw X).2.2.2 nw).1 == 0) = true
  ·rw [if_pos h2]
   refine ⟨kc.1, kc.2.1, fun t h3 h4 => by rw [kc.2.2 t h3 h4, kb.other t h3, ka.other t h3], fun hn => ?_⟩
   have e1 := Ya hn (by simpa using h1)
   rcases Tk (sp := (Bq E sp tn off nw X).2.2.1) (tn := tn) (off := (Bq E sp tn off nw X).2.2.2) e1 with ⟨_, e2⟩ | ⟨e2, _⟩
   ·rcases Yb (sp := (B4 (Bq E sp tn off nw X).2.1 (Bq E sp tn off nw X).2.2.1 tn (Bq E sp tn off nw X).2.2.2 nw).2.2.1) (tn := tn) (off := (B4 (Bq E sp tn off nw X).2.1 (Bq E sp tn off nw X).2.2.1 tn (Bq E sp tn off nw X).2.2.2 nw).2.2.2) (z := s) e2 with e3 | ⟨e3, e4⟩
    ·exact .inl e3
    ·refine .inr ⟨e3, ?_⟩
     rw [e4, kb.other s hne, ka.other s hne]
   ·exact absurd (by simpa using h2) e2
  ·rw [if_neg h2]
   refine ⟨kb.oke, kb.s1, fun t h3 h4 => by rw [kb.other t h3, ka.other t h3], fun hn => .inr ⟨by simpa using h2, by rw [kb.other s hne, ka.other s hne]⟩⟩
 ·rw [if_neg h1]
  exact ⟨ka.oke, ka.s1, fun t h3 h4 => ka.other t h3, fun hn => .inr ⟨by simpa using h1, ka.other s hne⟩⟩
theorem Yc (hE : OKE E) (hs : sp ≤ 9223372036854775807) (hne : s ≠ nw) :
  OKE (E5 E sp tn off nw s X).2.1 ∧ (E5 E sp tn off nw s X).2.2.1 ≤ 9223372036854775807 ∧
  (((E5 E sp tn off nw s X).1 = 0 ∧ A6 s (E5 E sp tn off nw s X).2.1 = some (X, (X.length : Int))) ∨ ((E5 E sp tn off nw s X).1 ≠ 0 ∧ A6 s (E5 E sp tn off nw s X).2.1 = A6 s E)) := by
 have kc := O0 (tn := tn) (off := off) (s := nw) hE hs
 simp only [E5]
 by_cases h1 : ((Ga E sp tn off nw).1 == 0) = true
 ·rw [if_pos h1]
  obtain ⟨a1, a2, _, a3⟩ := Zy (tn := tn) (off := (Ga E sp tn off nw).2.2.2) (nw := nw) (s := s) (X := X) kc.oke kc.s1 hne
  refine ⟨a1, a2, ?_⟩
  rcases a3 (Vu hE h1) with h | ⟨h, h'⟩
  ·exact .inl h
  ·exact .inr ⟨h, by rw [h', kc.other s hne]⟩
 ·rw [if_neg h1]
  exact ⟨kc.oke, kc.s1, .inr ⟨by simpa using h1, kc.other s hne⟩⟩
end
theorem R2 {E : List Aq} (hE : OKE E) {s M : List UInt8} (h : A6 s E = some (M, (M.length : Int))) (l : List B1) : A6 s (A5 l E) = some (M, (M.length : Int)) := by
 obtain ⟨o1, o2, o3⟩ := hE.1 _ (J4 h)
 simp only at o1 o2 o3
 have hk : kOk (Hu l []) := My (by intro x hx; cases hx)
 obtain ⟨c1, c2⟩ := Pp (ks := Hu l []) (s := s) (B := bs M) (u := (M.length : Int)) hk o1 (by rw [A9]; exact Int.le_refl _)
 rw [A9] at c2
 unfold A5
 rw [J5, h, Option.map_some]
 have e : Fy (Hu l []) s (bs M) (M.length : Int) = (M.length : Int) := by omega
 simp only [e, Int.toNat_natCast, List.take_length]
theorem Tl {E : List Aq} {s : List UInt8} (h : A6 s E = none) (l : List B1) : A6 s (A5 l E) = none := by
 unfold A5
 rw [J5, h]; rfl
theorem Vv {E : List Aq} (hE : OKE E) (l : List B1) : OKE (A5 l E) := by
 have hkk : kOk (Hu l []) := My (by intro x hx; cases hx)
 refine ⟨fun e he => ?_, ?_⟩
 ·obtain ⟨x, hx, rfl⟩ := List.mem_map.1 he
  obtain ⟨o1, o2, o3⟩ := hE.1 x hx
  obtain ⟨c1, c2⟩ := Pp (ks := Hu l []) (s := x.1) (B := bs x.2.1) (u := x.2.2) hkk o1 (by rw [A9]; exact o2)
  rw [A9] at c2
  simp only [U7, List.length_take]
  exact ⟨by omega, by omega, by omega⟩
 ·have : (A5 l E).map (·.1) = E.map (·.1) := by
   unfold A5; rw [List.map_map]; rfl
  rw [this]; exact hE.2
end Go.LS

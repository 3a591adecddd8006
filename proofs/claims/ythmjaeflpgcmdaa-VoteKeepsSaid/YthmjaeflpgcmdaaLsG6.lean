/- A small semantics of loaded Go code that the kernel can run, part 6. -/
import Derived.Test.YthmjaeflpgcmdaaLsG5
import Derived.Test.YthmjaeflpgcmdaaLsG4
import Derived.SizedLaws
import Derived.OpenShut
import Derived.Carry
import Derived.ChangeShapes
set_option linter.unusedVariables false
set_option linter.unusedSimpArgs false
namespace Go.LS
structure CrashOps where
 (o0 o1 o2 o3 o4 o5 o6 o7 o8 o9 o10 o11 o12 o13 o14 o15 o16 o17 : Array Oper)
 (x11 x12 x13 x15 : Oper)
def CrashOps.pre (o : CrashOps) : Code := .seq (.region 5 o.o5 false) (.seq (.cond (.tmp 17) .skip (.exit 0)) (.seq (.block 1 (.seq (.region 6 o.o6 false) (.seq (.seq (.region 7 o.o7 false) (.cond (.tmp 23) (.seq (.region 8 o.o8 false) .ret) .skip)) (.region 9 o.o9 false)))) (.region 10 o.o10 false)))
def CrashOps.walk (o : CrashOps) : Code := .seq (.region 12 o.o12 false) (.seq (.cond (.tmp 37) .skip (.exit 2)) (.block 3 (.seq (.region 13 o.o13 false) (.seq (.region 14 o.o14 false) (.region 15 (o.o15.push o.x15) true)))))
def CrashOps.code (o : CrashOps) : Code := .seq (.region 0 o.o0 false) (.seq (.seq (.region 1 o.o1 false) (.cond (.tmp 12) (.seq (.region 2 o.o2 false) .ret) .skip)) (.seq (.region 3 o.o3 false) (.seq (.seq (.region 4 o.o4 false) (.block 0 (.loop o.pre)))
 (.seq (.seq (.region 11 o.o11 false) (.block 2 (.loop o.walk))) (.seq (.region 16 o.o16 false) (.seq (.region 17 o.o17 false) .ret))))))
def Xr : Code → Option CrashOps
 | .seq (.region 0 o0 false) (.seq (.seq (.region 1 o1 false) (.cond (.tmp 12) (.seq (.region 2 o2 false) .ret) .skip)) (.seq (.region 3 o3 false) (.seq (.seq (.region 4 o4 false) (.block 0 (.loop
   (.seq (.region 5 o5 false) (.seq (.cond (.tmp 17) .skip (.exit 0)) (.seq (.block 1 (.seq (.region 6 o6 false) (.seq (.seq (.region 7 o7 false) (.cond (.tmp 23) (.seq (.region 8 o8 false) .ret) .skip)) (.region 9 o9 false)))) (.region 10 o10 false)))))))
   (.seq (.seq (.region 11 o11 false) (.block 2 (.loop (.seq (.region 12 o12 false) (.seq (.cond (.tmp 37) .skip (.exit 2)) (.block 3 (.seq (.region 13 o13 false) (.seq (.region 14 o14 false) (.region 15 o15 true)))))))))
   (.seq (.region 16 o16 false) (.seq (.region 17 o17 false) .ret)))))) =>
  match o11[4]?, o12[0]?, o13[0]?, o15.back? with
  | some x11, some x12, some x13, some x15 => some ⟨o0, o1, o2, o3, o4, o5, o6, o7, o8, o9, o10, o11, o12, o13, o14, o15.pop, o16, o17, x11, x12, x13, x15⟩
  | _, _, _, _ => none
 | _ => none
def noR : Nat → Bool := fun _ => false
structure L5 (P : Program) (K tM kt e : Nat) (fn : Func) (o : CrashOps) : Prop where
 body : fn.body = some o.code
 ntmps : fn.ntmps = 74
 res : fn.results = #[.tmp 4]
 mixed : P.follows .mixedOrders = true
 c0 : Bc P noR o.o0 0 o.o0.toList = some cr0
 c1 : Bc P noR o.o1 0 o.o1.toList = some cr1
 c2 : Bc P noR o.o2 0 o.o2.toList = some cr2
 c3 : Bc P noR o.o3 0 o.o3.toList = some cr3
 c4 : Bc P noR o.o4 0 o.o4.toList = some cr4
 c5 : Bc P noR o.o5 0 o.o5.toList = some cr5
 c6 : Bc P noR o.o6 0 o.o6.toList = some cr6
 c7 : Bc P noR o.o7 0 o.o7.toList = some (cr7 K)
 c8 : Bc P noR o.o8 0 o.o8.toList = some cr8
 c9 : Bc P noR o.o9 0 o.o9.toList = some cr9
 c10 : Bc P noR o.o10 0 o.o10.toList = some cr10
 c11 : Bc P noR o.o11 0 (o.o11.toList.take 4) = some cr11
 s11 : o.o11.size = 5
 h11 : o.o11[4]? = some o.x11
 p11 : o.x11.op = .range tM (.tmp 34) ∧ o.x11.dst = some 35 ∧ o.x11.guard = none
 c12 : Bc P noR o.o12 1 (o.o12.toList.drop 1) = some Z3
 s12 : o.o12.size = 2
 h12 : o.o12[0]? = some o.x12
 p12 : o.x12.op = .next (.tmp 35) false ∧ o.x12.dst = some 36 ∧ o.x12.guard = none
 c13 : Bc P noR o.o13 1 (o.o13.toList.drop 1) = some cr13
 s13 : o.o13.size = 6
 h13 : o.o13[0]? = some o.x13
 p13 : o.x13.op = .entry (.tmp 35) ∧ o.x13.dst = some 38 ∧ o.x13.guard = none
 c14 : Bc P noR o.o14 0 o.o14.toList = some cr14
 c15 : Da P noR o.o15 clsM = some cr15
 p15 : o.x15.op = .mapUpdate tM (.tmp 57) (.tmp 58) (.tmp 64) ∧ o.x15.dst = none ∧ o.x15.guard = none
 g15 : (o.o15.toList.all fun x => x.guard.isNone) = true
 d15 : ((List.range o.o15.size).all fun i => match o.o15[i]? with | some x => x.after.toList.all fun e => decide (e.on < i) | none => true) = true
 l15 : ((List.range o.o15.size).all fun i => o.x15.after.toList.any fun e => Region.binds .any e && e.on == i) = true
 i15 : (o.x15.after.toList.all fun e => decide (e.on < o.o15.size)) = true
 c16 : Bc P noR o.o16 0 o.o16.toList = some cr16
 c17 : Bc P noR o.o17 0 o.o17.toList = some cr0
 tm : P.underlying tM = some (.map kt e)
 tk : P.underlying kt = some .string
theorem Cy {P : Program} {call : CallF} (hok : Cl P call) {ops : Array Oper} {los : List Bl} (hc : Bc P noR ops 0 ops.toList = some los) {t t' : List LV} {st st' : List LObj} {G : Gh} {w : World} {a : Act} {id : Nat} {Q : Exit → Act → World → Prop}
  (hr : Bd call los t st = some (t', st')) (hw : WR G st w) (ht : TR G t a) (hq : ∀ a' w' G', WR G' st' w' → TR G' t' a' → Ext0 G st w G' st' w' → a'.defers = a.defers → Q .normal a' w') : (Code.region id ops false).wp P Q a w := by
 refine wp_region ?_
 have := J8 (P := P) (Q := Q) hok ops.toList 0 los (by intro i; simp) hc hr hw ht hq
 rw [List.range_eq_range']
 simpa using this
theorem Up {a b c : PV} {ks : List (List UInt8 × Int)} : ∀ (o : Nat) x, (S1 a b c ks)[o]? = some x → ∀ q ∈ x.refs, q < (S1 a b c ks).length := by
 intro o x ho q hq
 match o, ho with
 | 0, ho => cases ho; simp [LObj.refs, LV.refs] at hq; subst hq; simp [S1]
 | 1, ho => cases ho; simp [LObj.refs] at hq
 | 2, ho => cases ho; simp [LObj.refs, ksV] at hq; obtain ⟨x, y, ⟨i, j, _, rfl, rfl⟩, hq⟩ := hq; simp [LV.refs] at hq
theorem S2_refs {a b c : PV} {ks : List (List UInt8 × Int)} : ∀ (o : Nat) x, (S2 a b c ks)[o]? = some x → ∀ q ∈ x.refs, q < (S2 a b c ks).length := by
 intro o x ho q hq
 match o, ho with
 | 0, ho => cases ho; simp [LObj.refs, LV.refs] at hq; subst hq; simp [S2]
 | 1, ho => cases ho; simp [LObj.refs] at hq
 | 2, ho => cases ho; simp [LObj.refs, ksV] at hq; obtain ⟨x, y, ⟨i, j, _, rfl, rfl⟩, hq⟩ := hq; simp [LV.refs] at hq
 | 3, ho => cases ho; simp [LObj.refs] at hq
def refsOk (n : Nat) (f : List (Nat × LV)) : Prop := ∀ p ∈ f, ∀ q ∈ p.2.refs, q < n
theorem Xs : ∀ {f : List (Nat × LV)} {i : Nat}, lk f i = .und ∨ ∃ p ∈ f, lk f i = p.2
 | [], i => .inl rfl
 | (j, v) :: r, i => by
  simp only [lk]
  split
  ·exact .inr ⟨_, List.mem_cons_self, rfl⟩
  ·rcases Xs (f := r) (i := i) with h | ⟨p, hp, h⟩
   ·exact .inl h
   ·exact .inr ⟨p, List.mem_cons_of_mem _ hp, h⟩
theorem TR.restrM {G : Gh} {n : Nat} {f : List (Nat × LV)} {a : Act} (h : TR G (mkT f) a) (hr : refsOk n f) : TR (G.restr n) (mkT f) a :=
 h.restr fun i v hv q hq => by
  have hi : i < 74 := by have := (List.getElem?_eq_some_iff.1 hv).1; rwa [E6] at this
  simp only [mkT, List.getElem?_map, List.getElem?_range hi, Option.map_some, Option.some.injEq] at hv
  subst hv
  rcases Xs (f := f) (i := i) with e | ⟨p, hp, e⟩
  ·rw [e] at hq; simp [LV.refs] at hq
  ·rw [e] at hq; exact hr p hp q hq
theorem Rn {r : List PV} {rs : List (List PV)} {ks : List (List UInt8 × Int)} {res : Option (List (List UInt8 × Int))} (h : F4 (r :: rs) ks = some res) :
  ∃ s n, r = [.str s, .int .i64 n] ∧ ((nmB s = true ∧ F4 rs (Ke s (if n < 0 then 0 else n) ks) = some res) ∨ (nmB s = false ∧ res = none)) := by
 unfold F4 at h
 split at h
 ·rename_i e; cases e
 ·rename_i ks' s n r' e
  cases e
  refine ⟨s, n, rfl, ?_⟩
  split at h
  ·rename_i hb; exact .inl ⟨hb, h⟩
  ·rename_i hb; cases h; exact .inr ⟨by simpa using hb, rfl⟩
 ·cases h
theorem Ro {P : Program} {call : CallF} (hok : Cl P call) {K tM kt e : Nat} {fn : Func} {o : CrashOps} (C : L5 P K tM kt e fn o) (hK : ∀ s, call K [.p (.str s)] [] = some (.p (.bool (nmB s)), []))
  {G0 : Gh} {T0 : List LObj} {w0 : World} {a b c : PV} {rows : List (List PV)} (hlen : rows.length ≤ 9223372036854775807) {res : Option (List (List UInt8 × Int))} {QL : Exit → Act → World → Prop} {df : List Deferred}
  (hE : ∀ a' w' G' ks', res = some ks' → kOk ks' → WR G' (S1 a b c ks') w' → TR G' (mkT [(0, dP), (5, .mp 2)]) a' → Ext0 G0 T0 w0 G' (S1 a b c ks') w' → a'.defers = df → QL (.exit 0) a' w')
  (hR : ∀ a' w' G' ks', res = none → WR G' (S1 a b c ks') w' → TR G' (mkT [(4, .p (.int .i64 1))]) a' → Ext0 G0 T0 w0 G' (S1 a b c ks') w' → a'.defers = df → QL .ret a' w') :
  ∀ (rs : List (List PV)) (j : Nat) (ks : List (List UInt8 × Int)) (G1 : Gh) (w1 : World) (a1 : Act), rows.drop j = rs → F4 rs ks = some res → kOk ks → WR G1 (S1 a b c ks) w1 → TR G1 (mkT (fA rows j)) a1 → Ext0 G0 T0 w0 G1 (S1 a b c ks) w1 → a1.defers = df →
   Code.rounds P o.pre QL (rs.length + 1) a1 w1 := by
 intro rs
 induction rs with
 | nil =>
  intro j ks G1 w1 a1 hd hk hko hw ht hx hdf
  simp only [F4, Option.some.injEq] at hk
  rw [rounds_succ]
  refine wp_seq (Cy hok C.c5 Xq hw ht fun a2 w2 G2 g1 g2 g3 g4 => ?_)
  simp only [Exit.then]
  have hj : ¬ j < rows.length := by have := congrArg List.length hd; simp at this; omega
  refine wp_seq (wp_cond_false (y := .exit 0) ?_ (wp_exit ?_))
  ·have := g2.at 17 (by decide)
   simp only [lk, hj, decide_false] at this
   exact this.bool_inv
  ·simp only [Exit.then]
   exact hE a2 w2 G2 ks hk.symm hko g1 (g2.forget _ ⟨rfl, rfl, trivial⟩) (hx.trans g3) (g4.trans hdf)
 | cons r rs ih =>
  intro j ks G1 w1 a1 hd hk hko hw ht hx hdf
  have hj : j < rows.length := by have := congrArg List.length hd; simp at this; omega
  have hrj : rows[j]? = some r := by have := congrArg (·[0]?) hd; simpa using this
  have hd' : rows.drop (j + 1) = rs := by
   have := congrArg List.tail hd
   simpa [List.tail_drop] using this
  obtain ⟨s, n, rfl, hcase⟩ := Rn hk
  rw [rounds_succ]
  refine wp_seq (Cy hok C.c5 Xq hw ht fun a2 w2 G2 g1 g2 g3 g4 => ?_)
  simp only [Exit.then]
  refine wp_seq (wp_cond_true (x := .skip) ?_ (wp_skip ?_))
  ·have := g2.at 17 (by decide)
   simp only [lk, hj, decide_true] at this
   exact this.bool_inv
  simp only [Exit.then]
  refine wp_seq (wp_block (wp_seq (Cy hok C.c6 (crRun6 hrj) g1 (g2.forget (fA rows j) ⟨rfl, rfl, rfl, rfl, rfl, trivial⟩) fun a3 w3 G3 k1 k2 k3 k4 => ?_)))
  simp only [Exit.then, Exit.inBlock]
  refine wp_seq (wp_seq (Cy hok C.c7 (crRun7 (hK s) rfl) k1 k2 fun a4 w4 G4 m1 m2 m3 m4 => ?_))
  simp only [Exit.then, Exit.inBlock]
  have h23 := m2.at 23 (by decide)
  rcases hcase with ⟨hb, hk'⟩ | ⟨hb, rfl⟩
  ·simp only [lk, hb, Bool.not_true] at h23
   refine wp_cond_false h23.bool_inv (wp_skip ?_)
   simp only [Exit.then, Exit.inBlock]
   obtain ⟨f', hr9, hf'⟩ := crRun9 (call := call) (a := a) (b := b) (c := c) (ks := ks) (s := s) (n := n) (f := (23, .p (.bool !nmB s)) :: (22, .p (.bool (nmB s))) :: (21, .p (.str s)) :: (20, .ptr 3 0 0) :: (7, .ptr 3 0 0) :: (19, .agg [.p (.str s), .p (.int .i64 n)]) :: (18, .pin [.str s, .int .i64 n] 0) :: fA rows j) rfl rfl
   refine Cy hok C.c9 hr9 m1 m2 fun a5 w5 G5 n1 n2 n3 n4 => ?_
   simp only [Exit.then, Exit.inBlock]
   have hks : kOk (Ke s (if n < 0 then 0 else n) ks) := Py (by split <;> omega) hko
   have n2' : TR G5 (mkT (fA rows j)) a5 := n2.forget _ ⟨hf' 0 (by decide), hf' 5 (by decide), hf' 14 (by decide), hf' 15 (by decide), hf' 16 (by decide), trivial⟩
   have n1' := n1.drop Up
   have hx5 : Ext0 G0 T0 w0 (G5.restr 3) (S1 a b c (Ke s (if n < 0 then 0 else n) ks)) w5 :=
    hx.trans (g3.trans ((k3.trans (m3.trans n3)).drop g1.dom (by simp [S1])))
   have t5 : TR (G5.restr 3) (mkT (fA rows j)) a5 := n2'.restrM (by
    intro p hp q hq
    simp only [fA, List.mem_cons, List.not_mem_nil, or_false] at hp
    rcases hp with rfl | rfl | rfl | rfl | rfl <;> simp [LV.refs] at hq <;> subst hq <;> decide)
   refine Cy hok C.c10 (Z5 (j := j) (by omega) rfl) n1' t5 fun a6 w6 G6 q1 q2 q3 q4 => ?_
   simp only [Exit.then]
   exact ih (j + 1) _ G6 w6 a6 hd' hk' hks q1 (q2.forget _ ⟨rfl, rfl, rfl, rfl, rfl, trivial⟩) (hx5.trans q3) (by rw [q4, n4, m4, k4, g4, hdf])
  ·simp only [lk, hb, Bool.not_false] at h23
   refine wp_cond_true h23.bool_inv (wp_seq (Cy hok C.c8 crRun8 m1 m2 fun a5 w5 G5 n1 n2 n3 n4 => ?_))
   simp only [Exit.then, Exit.inBlock]
   refine wp_ret ?_
   simp only [Exit.then, Exit.inBlock]
   exact hR a5 w5 _ ks rfl (n1.drop Up) ((n2.forget [(4, .p (.int .i64 1))] ⟨rfl, trivial⟩).restrM (by
    intro p hp q hq
    simp only [List.mem_cons, List.not_mem_nil, or_false] at hp
    subst hp; simp [LV.refs] at hq))
    (hx.trans (g3.trans ((k3.trans (m3.trans n3)).drop g1.dom (by simp [S1])))) (by rw [n4, m4, k4, g4, hdf])
end Go.LS
set_option linter.unusedVariables false
set_option linter.unusedSimpArgs false
namespace Go.LS
open Go.ChangeMaps (setBlock)
structure Fm (G : Gh) (st : List LObj) (w : World) (bm : Nat) (G' : Gh) (st' : List LObj) (w' : World) : Prop where
 le : G.le G'
 os : w'.os = w.os
 tape : w'.tape = w.tape
 output : w'.output = w.output
 hsz : w.heap.size ≤ w'.heap.size
 unch : ∀ b, b < w.heap.size → b ≠ bm → (∀ o, ¬ Owns G st o b) → w'.heap[b]? = w.heap[b]?
 own : ∀ o b, Owns G' st' o b → b < w.heap.size → ∃ o', Owns G st o' b
 newF : ∀ b off v, G'.F b off = some v → b < w.heap.size → (∀ o, ¬ Owns G st o b) → G.F b off = some v
theorem Ext0.fm {G G' : Gh} {st st' : List LObj} {w w' : World} (h : Ext0 G st w G' st' w') (bm : Nat) : Fm G st w bm G' st' w' :=
 ⟨h.le, h.os, h.tape, h.output, h.hsz, fun b hb _ ho => h.unch b hb ho, h.own, h.newF⟩
theorem Fm.step {G G1 G2 : Gh} {st s1 s2 : List LObj} {w w1 w2 : World} {bm : Nat} (h : Fm G st w bm G1 s1 w1) (k : Ext0 G1 s1 w1 G2 s2 w2) : Fm G st w bm G2 s2 w2 := by
 have un : ∀ b, b < w.heap.size → (∀ o, ¬ Owns G st o b) → ∀ o, ¬ Owns G1 s1 o b := fun b hb ho o h1 => by obtain ⟨o', h'⟩ := h.own o b h1 hb; exact ho o' h'
 exact ⟨h.le.trans k.le, k.os.trans h.os, k.tape.trans h.tape, k.output.trans h.output, Nat.le_trans h.hsz k.hsz, fun b hb hne ho => (k.unch b (Nat.lt_of_lt_of_le hb h.hsz) (un b hb ho)).trans (h.unch b hb hne ho),
  fun o b ho hb => by obtain ⟨o', h'⟩ := k.own o b ho (Nat.lt_of_lt_of_le hb h.hsz); exact h.own o' b h' hb, fun b off v hv hb ho => h.newF b off v (k.newF b off v hv (Nat.lt_of_lt_of_le hb h.hsz) (un b hb ho)) hb ho⟩
theorem Fm.keeps {G G1 G2 : Gh} {st s1 s2 : List LObj} {w w1 w2 : World} {bm : Nat} (h : Fm G st w bm G1 s1 w1) (k : Ext0 G1 s1 w1 G2 s2 w2) (hb : bm < w.heap.size) (ho : ∀ o, ¬ Owns G st o bm) : w2.heap[bm]? = w1.heap[bm]? :=
 k.unch bm (Nat.lt_of_lt_of_le hb h.hsz) fun o h1 => by obtain ⟨o', h'⟩ := h.own o bm h1 hb; exact ho o' h'
theorem Fm.hand {G G1 : Gh} {st s1 : List LObj} {w w1 w2 : World} {bm x : Nat} (h : Fm G st w bm G1 s1 w1) (hx : x = bm ∨ w.heap.size ≤ x) (e1 : w2.os = w1.os) (e2 : w2.tape = w1.tape) (e3 : w2.output = w1.output) (e4 : w1.heap.size ≤ w2.heap.size)
  (e5 : ∀ b, b < w1.heap.size → b ≠ x → w2.heap[b]? = w1.heap[b]?) : Fm G st w bm G1 s1 w2 :=
 ⟨h.le, e1.trans h.os, e2.trans h.tape, e3.trans h.output, Nat.le_trans h.hsz e4, fun b hb hne ho => (e5 b (Nat.lt_of_lt_of_le hb h.hsz) (by rcases hx with rfl | hx; exact hne; omega)).trans (h.unch b hb hne ho), h.own, h.newF⟩
def F8 (ks : List (List UInt8 × Int)) : List Ent → List Bool → List (PV × LV)
 | e :: E, b :: dn => (if b then Cm ks e else Hc e) :: F8 ks E dn
 | _, _ => []
theorem Nb {ks : List (List UInt8 × Int)} : ∀ {E : List Ent} {dn : List Bool} {i : Nat} {e : Ent} {b : Bool}, E[i]? = some e → dn[i]? = some b → (F8 ks E dn)[i]? = some (if b then Cm ks e else Hc e)
 | e' :: E, b' :: dn, 0, e, b, h1, h2 => by cases h1; cases h2; rfl
 | e' :: E, b' :: dn, i + 1, e, b, h1, h2 => by simpa [F8] using Nb (ks := ks) (E := E) (dn := dn) (i := i) (by simpa using h1) (by simpa using h2)
 | [], _, _, _, _, h1, _ => by simp at h1
 | _ :: _, [], _, _, _, _, h2 => by simp at h2
theorem Nc {ks : List (List UInt8 × Int)} : ∀ {E : List Ent} {dn : List Bool}, dn.length = E.length → (F8 ks E dn).length = E.length
 | [], [], _ => rfl
 | e :: E, b :: dn, h => by simp only [F8, List.length_cons]; rw [Nc (by simpa using h)]
 | [], _ :: _, h => by simp at h
 | _ :: _, [], h => by simp at h
theorem Rp {ks : List (List UInt8 × Int)} : ∀ {E : List Ent} {dn : List Bool} {i : Nat} {e : Ent}, dn.length = E.length → E[i]? = some e → F8 ks E (dn.set i true) = (F8 ks E dn).set i (Cm ks e)
 | e' :: E, b' :: dn, 0, e, hl, h1 => by cases h1; rfl
 | e' :: E, b' :: dn, i + 1, e, hl, h1 => by simp only [List.set_cons_succ, F8]; rw [Rp (by simpa using hl) (by simpa using h1)]
 | [], _, _, _, _, h1 => by simp at h1
 | _ :: _, [], _, _, hl, _ => by simp at hl
theorem Rq {ks : List (List UInt8 × Int)} : ∀ {E : List Ent} {dn : List Bool}, dn.length = E.length → (∀ b ∈ dn, b = true) → F8 ks E dn = E.map (Cm ks)
 | [], [], _, _ => rfl
 | e :: E, b :: dn, h, ha => by
  simp only [F8, ha b List.mem_cons_self, if_true, List.map_cons]
  rw [Rq (by simpa using h) (fun b hb => ha b (List.mem_cons_of_mem _ hb))]
 | [], _ :: _, h, _ => by simp at h
 | _ :: _, [], h, _ => by simp at h
theorem Oy {ks : List (List UInt8 × Int)} : ∀ {E : List Ent}, F8 ks E (E.map fun _ => false) = E.map Hc
 | [] => rfl
 | e :: E => by simp only [List.map_cons, F8]; rw [Oy]; rfl
theorem Il {ks : List (List UInt8 × Int)} {E : List Ent} {dn : List Bool} (hl : dn.length = E.length) {i : Nat} {p : PV × LV} (h : (F8 ks E dn)[i]? = some p) : ∃ e b, E[i]? = some e ∧ dn[i]? = some b ∧ p = (if b then Cm ks e else Hc e) := by
 have hi := (List.getElem?_eq_some_iff.1 h).1
 rw [Nc hl] at hi
 have h1 : E[i]? = some E[i] := by simp [hi]
 have h2 : dn[i]? = some (dn[i]'(by omega)) := by simp [show i < dn.length by omega]
 have := Nb (ks := ks) h1 h2
 rw [h] at this
 exact ⟨_, _, h1, h2, by cases this; rfl⟩
theorem Uq (ks : List (List UInt8 × Int)) (e : Ent) (b : Bool) : (if b then Cm ks e else Hc e).1 = .str e.1 := by cases b <;> rfl
theorem Rr (ks : List (List UInt8 × Int)) (e : Ent) (b : Bool) : (if b then Cm ks e else Hc e).2.refs = [] := by cases b <;> rfl
theorem Oz {s : List UInt8} : ∀ {kv : List (PV × LV)}, (∀ x ∈ kv, ∃ t, x.1 = .str t) → (∃ x ∈ kv, x.1 = .str s) → ∃ v, D9 (.str s) kv = some (some v)
 | [], _, h => by obtain ⟨x, hx, _⟩ := h; cases hx
 | (k, v) :: r, h1, h2 => by
  obtain ⟨t, ht⟩ := h1 _ List.mem_cons_self
  simp only at ht
  subst ht
  simp only [D9, Gm]
  cases hb : s == t
  ·obtain ⟨x, hx, he⟩ := h2
   have : ∃ x ∈ r, x.1 = .str s := by
    rcases List.mem_cons.1 hx with rfl | hx
    ·simp only [PV.str.injEq] at he; subst he; simp at hb
    ·exact ⟨x, hx, he⟩
   obtain ⟨v', hv⟩ := Oz (fun x hx => h1 x (List.mem_cons_of_mem _ hx)) this
   exact ⟨v', by simpa using hv⟩
  ·exact ⟨v, rfl⟩
structure WInv (ks : List (List UInt8 × Int)) (E : List Ent) (bm r since clock : Nat) (es : Array MapEntry) (seen : Array Nat) (dn : List Bool) (c0 : Nat) (G : Gh) (w : World) : Prop where
 hb : w.heap[bm]? = some (.map es clock)
 hmo : mapOk G es (F8 ks E dn)
 hst : Stamps es clock
 hr : w.heap[r]? = some (.mapIter (some bm) since seen c0)
 hold : ∀ x ∈ es.toList, x.born < since
 hsc : since ≤ c0
 hsk : since ≤ clock
 hdl : dn.length = E.length
 hdn : ∀ (i : Nat) e, es[i]? = some e → dn[i]? = some (seen.contains e.born)
theorem Vp {dn : List Bool} : ∀ {i : Nat}, dn[i]? = some false → (dn.set i true).count false < dn.count false := by
 induction dn with
 | nil => intro i h; simp at h
 | cons b dn ih =>
  intro i h
  cases i with
  | zero =>
   simp only [List.getElem?_cons_zero, Option.some.injEq] at h
   subst h
   simp
  | succ i =>
   have := ih (i := i) (by simpa using h)
   simp only [List.set_cons_succ, List.count_cons]
   omega
theorem N9 (seen : Array Nat) (x y : Nat) : (seen.push x).contains y = (seen.contains y || y == x) := by
 rw [Bool.eq_iff_iff]
 simp [Array.contains_iff_mem]
theorem Vq {P : Program} {call : CallF} (hok : Cl P call) {K tM kt e : Nat} {fn : Func} {o : CrashOps} (C : L5 P K tM kt e fn o)
  {G0 : Gh} {T0 : List LObj} {w0 : World} {a b c : PV} {ks : List (List UInt8 × Int)} (hko : kOk ks) {E : List Ent} (hE : ∀ x ∈ E, (x.2.1.all fun e => e.length == 1) = true ∧ 0 ≤ x.2.2 ∧ x.2.2 ≤ x.2.1.length ∧ x.2.1.length ≤ 9223372036854775807) (hnd : (E.map (·.1)).Nodup)
  {bm r : Nat} (hbm : bm < w0.heap.size) (hno : ∀ o, ¬ Owns G0 T0 o bm) (hrw : w0.heap.size ≤ r) {since clock : Nat} {QL : Exit → Act → World → Prop} {df : List Deferred}
  (hQ : ∀ a' w' G' es seen dn c0, WInv ks E bm r since clock es seen dn c0 G' w' → (∀ b ∈ dn, b = true) → WR G' (S2 a b c ks) w' → TR G' (mkT fB) a' → Fm G0 T0 w0 bm G' (S2 a b c ks) w' → G'.loc 1 = some (.map bm) → a'.defers = df → QL (.exit 2) a' w') :
  ∀ (n : Nat) (es : Array MapEntry) (seen : Array Nat) (dn : List Bool) (c0 : Nat) (G1 : Gh) (w1 : World) (a1 : Act), dn.count false < n → WInv ks E bm r since clock es seen dn c0 G1 w1 → WR G1 (S2 a b c ks) w1 → TR G1 (mkT fB) a1 → Fm G0 T0 w0 bm G1 (S2 a b c ks) w1 →
   G1.loc 1 = some (.map bm) → G1.loc 3 = some (.iter r) → (∀ q, ¬ Owns G1 (S2 a b c ks) q r) → a1.defers = df → Code.rounds P o.walk QL n a1 w1 := by
 intro n
 induction n with
 | zero => intro es seen dn c0 G1 w1 a1 h; omega
 | succ n ih =>
  intro es seen dn c0 G1 w1 a1 hn I hw ht hx hl1 hl3 hor hdf
  have hkd : KK.str.desc .string := rfl
  have hrlt : r < w1.heap.size := Ar I.hr
  rw [rounds_succ]
  have h35 : a1.tmps.getD 35 undef = .pointer (some ⟨r, 0, none⟩) := by
   obtain ⟨blk, e1, e2⟩ := (ht.at 35 (by decide)).it_inv
   rw [hl3] at e1; cases e1; exact e2
  refine wp_seq (wp_region ?_)
  rw [C.s12, show List.range 2 = 0 :: (List.range' 1 1 ++ []) from rfl]
  have hnx := run_next_at (P := P) w1 o.x12.type r bm since c0 seen es clock I.hr I.hb I.hold I.hsc
  rcases hnx with ⟨h0, hrun⟩ | ⟨en, hen, w1', hal, hrun⟩
  ·have hx12 : (execOp a1.eval o.x12).run P w1 = .ok (.value (.tuple #[.bool false])) w1 := by
    have := C.p12.1
    simp only [execOp, this, Act.eval, h35, Sem.run_bind, hrun, Result.andThen_ok, Sem.run_pure]
   refine F3 C.h12 C.p12.2.2 hx12 ?_
   rw [C.p12.2.1]
   have t2 : TR G1 (mkT ((36, .tup [.p (.bool false)]) :: fB)) (a1.put (some 36) (.tuple #[.bool false])) := ht.putM (.tup _ rfl (by
    intro i x hi
    match i, hi with
    | 0, hi => cases hi; exact .p (.bool _))) 36 (by decide)
   have hpart := Ha (P := P) (Q := Exit.then ((Code.seq (.cond (.tmp 37) .skip (.exit 2)) (.block 3 (.seq (.region 13 o.o13 false) (.seq (.region 14 o.o14 false) (.region 15 (o.o15.push o.x15) true))))).wp P (Exit.then (Code.rounds P o.walk QL n) QL)) (Exit.then (Code.rounds P o.walk QL n) QL)) (rest := []) hok (o.o12.toList.drop 1) 1 Z3 (by
    intro i hi
    simp [Nat.add_comm]) C.c12 Uo hw t2 (fun a2 w2 G2 g1 g2 g3 g4 => ?_)
   ·rw [show (o.o12.toList.drop 1).length = 1 by simp [C.s12]] at hpart
    exact hpart
   ·show Exit.then _ _ .normal a2 w2
    simp only [Exit.then]
    refine wp_seq (wp_cond_false (y := .exit 2) ?_ (wp_exit ?_))
    ·exact (g2.at 37 (by decide)).bool_inv
    ·simp only [Exit.then]
     have hun : ∀ q, ¬ Owns G1 (S2 a b c ks) q bm := fun q h1 => by obtain ⟨o', h'⟩ := hx.own q bm h1 hbm; exact hno o' h'
     refine hQ a2 w2 G2 es seen dn c0 ⟨(g3.unch bm (Ar I.hb) hun).trans I.hb, I.hmo.mono g3.le, I.hst, (g3.unch r hrlt hor).trans I.hr, I.hold, I.hsc, I.hsk, I.hdl, I.hdn⟩ ?_ g1 (g2.forget _ ⟨rfl, rfl, rfl, trivial⟩) (hx.step g3) (g3.le.loc _ _ hl1) (by rw [g4]; exact hdf)
     intro b hb
     obtain ⟨i, hi⟩ := List.getElem?_of_mem hb
     have hil := (List.getElem?_eq_some_iff.1 hi).1
     have hes : i < es.size := by rw [I.hmo.1, Nc I.hdl, ← I.hdl]; exact hil
     have h1 := I.hdn i es[i] (by simp [hes])
     rw [hi] at h1
     cases h1
     exact all_seen es seen h0 es[i] (by simp)
  ·-- an entry has come
   obtain ⟨hem, hns⟩ := mem_left hen
   obtain ⟨i, hi⟩ := List.getElem?_of_mem hem
   have hi' : es[i]? = some en := by simpa using hi
   have hil := (Array.getElem?_eq_some_iff.1 hi').1
   have hdi : dn[i]? = some false := by rw [I.hdn i en hi', hns]
   have hiE : i < E.length := by rw [← I.hdl]; exact (List.getElem?_eq_some_iff.1 hdi).1
   obtain ⟨ent, hent⟩ : ∃ x, E[i]? = some x := ⟨E[i], by simp [hiE]⟩
   obtain ⟨s, B, u⟩ := ent
   obtain ⟨hB1, hB2, hB3, hB4⟩ := hE _ (List.mem_of_getElem? hent)
   simp only at hB1 hB2 hB3 hB4
   have hkvi : (F8 ks E dn)[i]? = some (.str s, .agg [.p (.sl B), .p (.int .i64 u)]) := Nb hent hdi
   obtain ⟨en', e1, hvk, hvv⟩ := I.hmo.2 i _ _ hkvi
   rw [hi'] at e1; cases e1
   have hw1h : w1'.heap = w1.heap := by rcases hal with rfl | rfl <;> rfl
   obtain ⟨w2, hw2⟩ : ∃ w2, setBlock w1' r (.mapIter (some bm) since (seen.push en.born) clock) = w2 := ⟨_, rfl⟩
   rw [hw2] at hrun
   have h2r : w2.heap[r]? = some (.mapIter (some bm) since (seen.push en.born) clock) := by rw [← hw2]; simp [setBlock, hw1h, hrlt]
   have h2o : ∀ q, q ≠ r → w2.heap[q]? = w1.heap[q]? := fun q hq => by rw [← hw2]; simp only [setBlock]; rw [Array.getElem?_setIfInBounds_ne (Ne.symm hq), hw1h]
   have hbr : bm ≠ r := by intro e; have := I.hb; rw [e, I.hr] at this; cases this
   have wr2 : WR G1 (S2 a b c ks) w2 := hw.same (fun q bb ho => h2o bb (fun e => hor q (e ▸ ho))) (fun bb off v hv => h2o bb (fun e => by
    have := hw.fr bb off v hv
    rw [e] at this
    simp only [World.cell?, I.hr] at this
    cases this))
   have hfm2 : Fm G0 T0 w0 bm G1 (S2 a b c ks) w2 := by
    refine hx.hand (.inr hrw) ?_ ?_ ?_ ?_ (fun bb _ hne => h2o bb hne)
    ·rw [← hw2]; rcases hal with rfl | rfl <;> rfl
    ·rw [← hw2]; rcases hal with rfl | rfl <;> rfl
    ·rw [← hw2]; rcases hal with rfl | rfl <;> rfl
    ·rw [← hw2]; simp [setBlock, hw1h]
   have hx12 : (execOp a1.eval o.x12).run P w1 = .ok (.value (.tuple #[.bool true, en.key, en.val])) w2 := by
    have := C.p12.1
    simp only [execOp, this, Act.eval, h35, Sem.run_bind, hrun, Result.andThen_ok, Sem.run_pure]
   refine F3 C.h12 C.p12.2.2 hx12 ?_
   rw [C.p12.2.1]
   have t2 : TR G1 (mkT ((36, .tup [.p (.bool true), .p (.str s), .agg [.p (.sl B), .p (.int .i64 u)]]) :: fB)) (a1.put (some 36) (.tuple #[.bool true, en.key, en.val])) := ht.putM (.tup _ rfl (by
    intro i x hi
    match i, hi with
    | 0, hi => cases hi; exact .p (.bool _)
    | 1, hi => cases hi; exact .p hvk
    | 2, hi => cases hi; exact hvv)) 36 (by decide)
   have hpart := Ha (P := P) (Q := Exit.then ((Code.seq (.cond (.tmp 37) .skip (.exit 2)) (.block 3 (.seq (.region 13 o.o13 false) (.seq (.region 14 o.o14 false) (.region 15 (o.o15.push o.x15) true))))).wp P (Exit.then (Code.rounds P o.walk QL n) QL)) (Exit.then (Code.rounds P o.walk QL n) QL)) (rest := []) hok (o.o12.toList.drop 1) 1 Z3 (by
    intro i hi
    simp [Nat.add_comm]) C.c12 Uo wr2 t2 (fun a3 w3 G3 g1 g2 g3 g4 => ?_)
   ·rw [show (o.o12.toList.drop 1).length = 1 by simp [C.s12]] at hpart
    exact hpart
   ·show Exit.then _ _ .normal a3 w3
    simp only [Exit.then]
    refine wp_seq (wp_cond_true (x := .skip) (g2.at 37 (by decide)).bool_inv (wp_skip ?_))
    simp only [Exit.then]
    have hun1 : ∀ q, ¬ Owns G1 (S2 a b c ks) q bm := fun q h1 => by obtain ⟨o', h'⟩ := hx.own q bm h1 hbm; exact hno o' h'
    have hsz2 : w1.heap.size ≤ w2.heap.size := by rw [← hw2]; simp [setBlock, hw1h]
    have h3b : w3.heap[bm]? = some (.map es clock) := (g3.unch bm (Nat.lt_of_lt_of_le (Ar I.hb) hsz2) hun1).trans ((h2o bm hbr).trans I.hb)
    have h3r : w3.heap[r]? = some (.mapIter (some bm) since (seen.push en.born) clock) := (g3.unch r (Nat.lt_of_lt_of_le hrlt hsz2) hor).trans h2r
    have hfm3 := hfm2.step g3
    have hor3 : ∀ q, ¬ Owns G3 (S2 a b c ks) q r := fun q h1 => by obtain ⟨o', h'⟩ := g3.own q r h1 (Nat.lt_of_lt_of_le hrlt hsz2); exact hor o' h'
    have t3 : TR G3 (mkT fB) a3 := g2.forget _ ⟨rfl, rfl, rfl, trivial⟩
    have h35' : a3.tmps.getD 35 undef = .pointer (some ⟨r, 0, none⟩) := by
     obtain ⟨blk, e1, e2⟩ := (t3.at 35 (by decide)).it_inv
     rw [g3.le.loc _ _ hl3] at e1; cases e1; exact e2
    refine wp_block (wp_seq (wp_region ?_))
    rw [C.s13, show List.range 6 = 0 :: (List.range' 1 5 ++ []) from rfl]
    have hent13 : (execOp a3.eval o.x13).run P w3 = .ok (.value (.tuple #[en.key, en.val])) w3 := by
     have := C.p13.1
     have hrn := run_entry_at (P := P) w3 r bm since seen es clock en h3r h3b hem I.hst.2
     simp only [execOp, this, Act.eval, h35', Sem.run_bind, hrn, Result.andThen_ok, Sem.run_pure]
    refine F3 C.h13 C.p13.2.2 hent13 ?_
    rw [C.p13.2.1]
    have t4 : TR G3 (mkT ((38, .tup [.p (.str s), .agg [.p (.sl B), .p (.int .i64 u)]]) :: fB)) (a3.put (some 38) (.tuple #[en.key, en.val])) := t3.putM (.tup _ rfl (by
     intro i x hi
     match i, hi with
     | 0, hi => cases hi; exact (VL.p hvk).mono g3.le
     | 1, hi => cases hi; exact hvv.mono g3.le)) 38 (by decide)
    have hpart := Ha (P := P) (Q := Exit.then ((Code.seq (.region 14 o.o14 false) (.region 15 (o.o15.push o.x15) true)).wp P (Exit.inBlock 3 (Exit.then (Code.rounds P o.walk QL n) QL))) (Exit.inBlock 3 (Exit.then (Code.rounds P o.walk QL n) QL))) (rest := []) hok (o.o13.toList.drop 1) 1 cr13 (by
     intro i hi
     simp [Nat.add_comm]) C.c13 Z7 g1 t4 (fun a4 w4 G4 k1 k2 k3 k4 => ?_)
    ·rw [show (o.o13.toList.drop 1).length = 5 by simp [C.s13]] at hpart
     exact hpart
    ·show Exit.then _ _ .normal a4 w4
     simp only [Exit.then]
     obtain ⟨f14, hr14, hf14⟩ := Z8 (call := call) (a := a) (b := b) (c := c) (ks := ks) (s := s) (B := B) (u := u) hko hB2 hB3 hB4
     refine wp_seq (Cy hok C.c14 hr14 k1 (k2.forget (fC s) ⟨rfl, rfl, rfl, rfl, rfl, trivial⟩) fun a5 w5 G5 m1 m2 m3 m4 => ?_)
     simp only [Exit.then]
     obtain ⟨hc1, hc2⟩ := Qb (s := s) (B := B) (u := u) hko hB2 hB3
     obtain ⟨f15, hr15, h57, h58, hf15⟩ := Z9 (call := call) (a := a) (b := b) (c := c) (ks := ks) (s := s) (B := B) (u := u) (n := F5 ks s B u) (by omega) hc2 hB1
     have t5 : TR G5 (mkT ((10, .p (.int .i64 (F5 ks s B u))) :: fC s)) a5 := m2.forget _ ⟨rfl, by
      have h := hf14; exact ⟨by simp [lk, h 0 (by decide)], by simp [lk, h 5 (by decide)], by simp [lk, h 35 (by decide)], by simp [lk, h 9 (by decide)], by simp [lk, h 8 (by decide)], trivial⟩⟩
     refine Tm C.mixed hok C.c15 (fun q x hq => ?_) C.p15.2.2 (fun q x hq y hy => ?_) (fun q hq => ?_) (fun y hy => ?_) 15 hr15 m1 t5 fun a6 w6 G6 q1 q2 q3 q4 => ?_
     ·have := List.all_eq_true.1 C.g15 x (by simpa using Array.mem_of_getElem? hq)
      simpa using this
     ·have := List.all_eq_true.1 C.d15 q (by simpa using (Array.getElem?_eq_some_iff.1 hq).1)
      rw [hq] at this
      have := List.all_eq_true.1 this y (by simpa using hy)
      simpa using this
     ·have := List.all_eq_true.1 C.l15 q (by simpa using hq)
      obtain ⟨y, hy, h'⟩ := List.any_eq_true.1 this
      simp only [Bool.and_eq_true, beq_iff_eq] at h'
      exact ⟨y, by simpa using hy, h'.1, h'.2⟩
     ·have := List.all_eq_true.1 C.i15 y (by simpa using hy)
      simpa using this
     ·-- the map's entry is written
      have x36 : Ext0 G3 (S2 a b c ks) w3 G6 (S2 a b c ks ++ [.row [[.p (.sl B), .p (.int .i64 u)]]]) w6 := k3.trans (m3.trans q3)
      have hun3 : ∀ q, ¬ Owns G3 (S2 a b c ks) q bm := fun q h1 => by obtain ⟨o', h'⟩ := hfm3.own q bm h1 hbm; exact hno o' h'
      have h6b : w6.heap[bm]? = some (.map es clock) := (x36.unch bm (Ar h3b) hun3).trans h3b
      have h6r : w6.heap[r]? = some (.mapIter (some bm) since (seen.push en.born) clock) := (x36.unch r (Ar h3r) hor3).trans h3r
      have hl6 : G6.loc 1 = some (.map bm) := x36.le.loc _ _ (g3.le.loc _ _ hl1)
      have v57 := q2.at 57 (by decide)
      have v58 := q2.at 58 (by decide)
      have v64 := q2.at 64 (by decide)
      rw [show lk ((64, _) :: f15) 57 = lk f15 57 from by simp [lk], h57] at v57
      rw [show lk ((64, _) :: f15) 58 = lk f15 58 from by simp [lk], h58] at v58
      obtain ⟨bb, el, eu⟩ := v57.mp_inv
      rw [hl6] at el; cases el
      have es58 := v58.str_inv
      have hle6 : G1.le G6 := g3.le.trans x36.le
      have hmo6 : mapOk G6 es (F8 ks E dn) := I.hmo.mono hle6
      obtain ⟨m1', m2'⟩ := Ft hmo6
      have henk : en.key = .string ⟨s.toArray⟩ := (VL.p (G := G1) hvk).str_inv
      have hfn : Instr.findNow .string (.string ⟨s.toArray⟩) es.toList 0 = some (some (0 + i, en.val)) := by
       obtain ⟨v, hv⟩ := Oz (s := s) (kv := F8 ks E dn) (fun x hx => by
        obtain ⟨q, hq⟩ := List.getElem?_of_mem hx
        obtain ⟨e', b', _, _, rfl⟩ := Il I.hdl hq
        exact ⟨_, Uq ks e' b'⟩) ⟨_, List.mem_of_getElem? hkvi, rfl⟩
       rcases (Ep (kk := .str) (k := .str s) (G := G6) rfl hkd 0 (.str s) m1' m2').1 _ hv with ⟨j, v', e', _, hj1, hj2, hj3, _⟩ | ⟨h', _⟩
       ·obtain ⟨ej, bj, hj4, _, hj5⟩ := Il I.hdl hj1
        have hk1 := Uq ks ej bj
        rw [← hj5] at hk1
        simp only [PV.str.injEq] at hk1
        have hij : j = i := by
         have hlj : j < (E.map (·.1)).length := by simpa using (List.getElem?_eq_some_iff.1 hj4).1
         refine (List.getElem?_inj hlj hnd).1 ?_
         rw [List.getElem?_map, List.getElem?_map, hj4, hent]
         simp [hk1]
        subst hij
        have : e' = en := by
         rw [hi] at hj2; cases hj2; rfl
        subst this
        exact hj3
       ·cases h'
      have hfk := Cj (P := P) C.tk hfn w6
      have hst' : (Instr.keyThatStays (((es[0 + i]?).map (·.key)).getD (.string ⟨s.toArray⟩)) (.string ⟨s.toArray⟩)).run P w6 = .ok (.string ⟨s.toArray⟩) w6 := by
       rw [Nat.zero_add, hi']
       simp only [Option.map_some, Option.getD_some, henk, Instr.keyThatStays]
       rw [if_pos (by simp [Instr.sameBits, Mr])]; rfl
      obtain ⟨xv, hxv⟩ : ∃ xv, a6.tmps.getD 64 undef = xv := ⟨_, rfl⟩
      rw [hxv] at v64
      have hrun15 : (execOp a6.eval o.x15).run P w6 = .ok .skip { w6 with heap := w6.heap.setIfInBounds bm (.map (es.modify i fun e => { e with key := .string ⟨s.toArray⟩, val := xv }) clock) } := by
       have hop := C.p15.1
       rw [Nat.zero_add] at hfk hst'
       have hmu : (Instr.mapUpdate tM (.map (some bm)) (.string ⟨s.toArray⟩) xv).run P w6 = .ok () { w6 with heap := w6.heap.setIfInBounds bm (.map (es.modify i fun e => { e with key := .string ⟨s.toArray⟩, val := xv }) clock) } := by
        simp only [Instr.mapUpdate, Sem.run_bind, run_underlying C.tm, Result.andThen_ok, getObj, Sem.run, h6b, B9 C.tk hkd, hfk, hst', setObj]
       simp only [execOp, hop, Act.eval, eu, es58, hxv, Sem.run_bind, hmu, Result.andThen_ok, Sem.run_pure]
      unfold Oper.wp
      rw [hrun15]
      obtain ⟨w7, hw7⟩ : ∃ w7, { w6 with heap := w6.heap.setIfInBounds bm (.map (es.modify i fun e => { e with key := .string ⟨s.toArray⟩, val := xv }) clock) } = w7 := ⟨_, rfl⟩
      rw [hw7]
      show Exit.inBlock 3 _ .normal (a6.put o.x15.dst undef) w7
      rw [C.p15.2.1]
      simp only [Exit.inBlock, Exit.then]
      have h7o : ∀ q, q ≠ bm → w7.heap[q]? = w6.heap[q]? := fun q hq => by rw [← hw7]; exact Array.getElem?_setIfInBounds_ne (Ne.symm hq)
      have h7b : w7.heap[bm]? = some (.map (es.modify i fun e => { e with key := .string ⟨s.toArray⟩, val := xv }) clock) := by rw [← hw7]; simp [Ar h6b]
      have hfm6 : Fm G0 T0 w0 bm G6 (S2 a b c ks ++ [.row [[.p (.sl B), .p (.int .i64 u)]]]) w6 := hfm3.step x36
      have hun6 : ∀ q, ¬ Owns G6 (S2 a b c ks ++ [.row [[.p (.sl B), .p (.int .i64 u)]]]) q bm := fun q h1 => by obtain ⟨o', h'⟩ := hfm6.own q bm h1 hbm; exact hno o' h'
      have wr7 : WR G6 (S2 a b c ks ++ [.row [[.p (.sl B), .p (.int .i64 u)]]]) w7 := q1.same (fun q bb ho => h7o bb (fun e => hun6 q (e ▸ ho))) (fun bb off v hv => h7o bb (fun e => by
       have := q1.fr bb off v hv
       rw [e] at this
       simp only [World.cell?, h6b] at this
       cases this))
      have hfm7 : Fm G0 T0 w0 bm G6 (S2 a b c ks ++ [.row [[.p (.sl B), .p (.int .i64 u)]]]) w7 := hfm6.hand (.inl rfl) (by rw [← hw7]) (by rw [← hw7]) (by rw [← hw7]) (by rw [← hw7]; simp) (fun bb _ hne => h7o bb hne)
      have hmo7 : mapOk (G6.restr 4) (es.modify i fun e => { e with key := .string ⟨s.toArray⟩, val := xv }) (F8 ks E (dn.set i true)) := by
       rw [Rp I.hdl hent]
       refine ⟨by simp [I.hmo.1], fun q kq vq hq => ?_⟩
       by_cases hqi : q = i
       ·subst hqi
        rw [List.getElem?_set_self (by rw [← I.hmo.1]; exact hil)] at hq
        cases hq
        refine ⟨_, by rw [Array.getElem?_modify, if_pos rfl, hi']; rfl, .str s, ?_⟩
        exact v64.restr (by intro z hz; simp [LV.refs, LV.refsL, lk] at hz)
       ·rw [List.getElem?_set_ne (Ne.symm hqi)] at hq
        obtain ⟨e2, b1, b2, b3⟩ := hmo6.2 q kq vq hq
        obtain ⟨e', b', _, _, hp⟩ := Il I.hdl hq
        refine ⟨e2, by rw [Array.getElem?_modify, if_neg (Ne.symm hqi)]; exact b1, b2, b3.restr fun z hz => ?_⟩
        have := Rr ks e' b'
        rw [← hp] at this
        rw [show vq.refs = [] from this] at hz
        cases hz
      have hmem7 : ∀ x ∈ (es.modify i fun e => { e with key := .string ⟨s.toArray⟩, val := xv }).toList, ∃ y ∈ es.toList, y.born = x.born := by
       intro x hx
       obtain ⟨q, hq⟩ := List.getElem?_of_mem hx
       rw [Array.getElem?_toList, Array.getElem?_modify] at hq
       split at hq
       ·simp only [Option.map_eq_some_iff] at hq
        obtain ⟨y, hy, rfl⟩ := hq
        exact ⟨y, List.mem_of_getElem? (by simpa using hy), rfl⟩
       ·exact ⟨x, List.mem_of_getElem? (by simpa using hq), rfl⟩
      have hdl7 : (dn.set i true).length = E.length := by simp [I.hdl]
      have hdn7 : ∀ (q : Nat) x, (es.modify i fun e => { e with key := .string ⟨s.toArray⟩, val := xv })[q]? = some x → (dn.set i true)[q]? = some ((seen.push en.born).contains x.born) := by
       intro q x hq
       rw [Array.getElem?_modify] at hq
       rw [N9]
       by_cases hqi : i = q
       ·subst hqi
        rw [if_pos rfl, hi'] at hq
        cases hq
        rw [List.getElem?_set_self (by rw [I.hdl]; exact hiE)]
        simp
       ·rw [if_neg hqi] at hq
        rw [List.getElem?_set_ne hqi, I.hdn q x hq]
        have hne : (x.born == en.born) = false := by
         rw [beq_eq_false_iff_ne]
         intro hbb
         have hql : q < (es.toList.map (·.born)).length := by simpa using (Array.getElem?_eq_some_iff.1 hq).1
         refine hqi ((List.getElem?_inj hql I.hst.2).1 ?_).symm
         rw [List.getElem?_map, List.getElem?_map, Array.getElem?_toList, Array.getElem?_toList, hq, hi']
         simp [hbb]
        simp [hne]
      have hr7 : w7.heap[r]? = some (.mapIter (some bm) since (seen.push en.born) clock) := (h7o r (Ne.symm hbr)).trans h6r
      have t7 : TR (G6.restr 4) (mkT fB) (a6.put none undef) := by
       have t7' : TR G6 (mkT fB) a6 := q2.forget _ ⟨by simp [lk, hf15 0 (by decide) (by decide)], by simp [lk, hf15 5 (by decide) (by decide)], by simp [lk, hf15 35 (by decide) (by decide)], trivial⟩
       exact t7'.restrM (by
        intro p hp q hq
        simp only [fB, List.mem_cons, List.not_mem_nil, or_false] at hp
        rcases hp with rfl | rfl | rfl <;> simp [LV.refs] at hq <;> subst hq <;> decide)
      have wr7' : WR (G6.restr 4) (S2 a b c ks) w7 := wr7.drop S2_refs
      have hfm7' : Fm G0 T0 w0 bm (G6.restr 4) (S2 a b c ks) w7 :=
       ⟨⟨hfm7.le.F, fun q l hq => by
         have h1 := hx.le.loc _ _ hq
         have : q < 4 := by
          rcases Nat.lt_or_ge q 4 with h | h
          ·exact h
          ·rw [(hw.dom q h).1] at h1; cases h1
         simp only [Gh.restr, if_pos this]; exact hfm7.le.loc _ _ hq, fun q f y hq => by
         have h1 := hx.le.hist _ _ _ hq
         have : q < 4 := by
          rcases Nat.lt_or_ge q 4 with h | h
          ·exact h
          ·rw [(hw.dom q h).2] at h1; cases h1
         simp only [Gh.restr, if_pos this]; exact hfm7.le.hist _ _ _ hq⟩, hfm7.os, hfm7.tape, hfm7.output, hfm7.hsz, hfm7.unch, fun q bb ho hb => hfm7.own q bb ((ho : Owns (G6.restr (S2 a b c ks).length) _ _ _).restr) hb, hfm7.newF⟩
      refine ih (es.modify i fun e => { e with key := .string ⟨s.toArray⟩, val := xv }) (seen.push en.born) (dn.set i true) clock (G6.restr 4) w7 (a6.put none undef) (by have := Vp hdi; omega)
       ⟨h7b, hmo7, I.hst.modify i _ (fun _ => rfl), hr7, fun x hx => by obtain ⟨y, hy, hyx⟩ := hmem7 x hx; rw [← hyx]; exact I.hold y hy, I.hsk, I.hsk, hdl7, hdn7⟩
       wr7' t7 hfm7' (by simp only [Gh.restr]; rw [if_pos (by decide)]; exact hl6) (by simp only [Gh.restr]; rw [if_pos (by decide)]; exact x36.le.loc _ _ (g3.le.loc _ _ hl3)) ?_ ?_
      ·intro q ho
       have h1 := (ho : Owns (G6.restr (S2 a b c ks).length) _ _ _).restr (J := [.row [[.p (.sl B), .p (.int .i64 u)]]])
       obtain ⟨o', h'⟩ := x36.own q r h1 (Ar h3r)
       exact hor3 o' h'
      ·show a6.defers = df
       rw [q4, m4, k4]
       show a3.defers = df
       rw [g4]
       exact hdf
end Go.LS
set_option linter.unusedVariables false
set_option linter.unusedSimpArgs false
namespace Go.LS
theorem VL.pure {G G2 : Gh} {v : LV} {u : Value} (h : VL G v u) (hr : v.refs = []) (hF : ∀ b o v, G.F b o = some v → G2.F b o = some v) : VL G2 v u := by
 have := VL.ren (G := G) (G' := G2) hF (fun o => o) h (fun o ho => by rw [hr] at ho; cases ho) (fun o ho => by rw [hr] at ho; cases ho)
 rwa [LV.ren_id] at this
theorem WR.addDead {G : Gh} {S : List LObj} {w : World} (h : WR G S w) (l : Loc) : WR (G.addLoc S.length l) (S ++ [.dead]) w := by
 have hn : ∀ {o : Nat} {x : LObj}, (S ++ [.dead])[o]? = some x → x ≠ .dead → o ≠ S.length ∧ S[o]? = some x := by
  intro o x ho hx
  rcases As ho with ⟨h1, h2⟩ | ⟨h1, h2⟩
  ·exact ⟨by omega, h2⟩
  ·exact absurd h2.symm hx
 have hle : G.le (G.addLoc S.length l) := Gh.le_addLoc (h.dom _ (Nat.le_refl _)).1
 have hl : ∀ {o : Nat}, o ≠ S.length → (G.addLoc S.length l).loc o = G.loc o := fun e => by simp only [Gh.addLoc, if_neg e]
 have ow : ∀ o b, Owns (G.addLoc S.length l) (S ++ [.dead]) o b → Owns G S o b := by
  intro o b ho
  unfold Owns at ho ⊢
  split at ho
  ·rename_i es e; obtain ⟨h1, h2⟩ := hn e (by simp); rw [h2]; rw [hl h1] at ho; exact ho
  ·rename_i es e; obtain ⟨h1, h2⟩ := hn e (by simp); rw [h2]; rw [hl h1] at ho; exact ho
  ·rename_i es _ e; obtain ⟨h1, h2⟩ := hn e (by simp); rw [h2]; rw [hl h1] at ho; exact ho
  ·rename_i es _ e; obtain ⟨h1, h2⟩ := hn e (by simp); rw [h2]; exact ho
  ·cases ho
 refine ⟨h.fr, fun o ho => ?_, ?_, ?_, ?_, ?_, fun o o' b h1 h2 => h.uniq o o' b (ow o b h1) (ow o' b h2), fun o b ho hn' off => ?_, ?_⟩
 ·simp only [List.length_append, List.length_cons, List.length_nil] at ho
  rw [hl (by omega)]
  exact h.dom o (by omega)
 ·intro o es ho l' hl'
  obtain ⟨h1, h2⟩ := hn ho (by simp)
  rw [hl h1] at hl'
  obtain ⟨blk, size, n, e, arr, ty, hb, r1, r2, r3⟩ := h.row o es h2 l' hl'
  exact ⟨blk, size, n, e, arr, ty, hb, r1, r2, r3.mono hle⟩
 ·intro o kv ho l' hl'
  obtain ⟨h1, h2⟩ := hn ho (by simp)
  rw [hl h1] at hl'
  obtain ⟨blk, e, es, c, hb, r⟩ := h.map o kv h2 l' hl'
  exact ⟨blk, e, es, c, hb, r.1.mono hle, r.2⟩
 ·intro o s p ho l' hl'
  obtain ⟨h1, h2⟩ := hn ho (by simp)
  rw [hl h1] at hl'
  exact h.iter o s p h2 l' hl'
 ·intro o n hw ho
  obtain ⟨h1, h2⟩ := hn ho (by simp)
  exact h.spare o n hw h2
 ·refine h.ownF o b (ow o b ho) (fun ⟨n, hw, e⟩ => hn' ⟨n, hw, ?_⟩) off
  rw [List.getElem?_append_left (List.getElem?_eq_some_iff.1 e).1]; exact e
 ·intro o x ho hx f
  by_cases e : o = S.length
  ·exact (h.dom o (by omega)).2 f
  ·have hlt : o < S.length := by have := (List.getElem?_eq_some_iff.1 ho).1; simp at this; omega
   rw [List.getElem?_append_left hlt] at ho
   exact h.kind o x ho hx f
theorem Nd : ∀ {kv : List (PV × LV)} {E : List Ent}, Ig kv = some E → E.length = kv.length ∧ ∀ (i : Nat) p, kv[i]? = some p → ∃ e, E[i]? = some e ∧ Rd p = some e
 | [], E, h => by simp only [Ig] at h; cases h; exact ⟨rfl, by simp⟩
 | x :: r, E, h => by
  simp only [Ig] at h
  split at h
  ·rename_i e l he hl
   cases h
   obtain ⟨h1, h2⟩ := Nd hl
   refine ⟨by simp [h1], fun i p hi => ?_⟩
   cases i with
   | zero => cases hi; exact ⟨e, rfl, he⟩
   | succ i => simpa using h2 i p (by simpa using hi)
  ·cases h
theorem O0 {p : PV × LV} {e : Ent} (h : Rd p = some e) : ∃ x, p = (.str e.1, .agg [x, .p (.int .i64 e.2.2)]) ∧ x.asSl = some e.2.1 ∧ (e.2.1.all fun e => e.length == 1) = true ∧ 0 ≤ e.2.2 ∧ e.2.2 ≤ e.2.1.length := by
 unfold Rd at h
 split at h
 ·rename_i s x u
  split at h
  ·rename_i B hB
   split at h
   ·rename_i hc
    cases h
    simp only [Bool.and_eq_true, decide_eq_true_eq] at hc
    exact ⟨x, rfl, hB, hc.1.1, hc.1.2, hc.2⟩
   ·cases h
  ·cases h
 ·cases h
theorem Xt {F : Nat → Nat → Option Value} {B : List (List PV)} {u : Value} (h : VP F (.sl B) u) : B.length ≤ maxLen := by
 cases h with
 | nils => exact Nat.zero_le _
 | sl0 => exact Nat.zero_le _
 | sl es size b o cap vals hcap hm => omega
theorem Xu {G : Gh} {e : Ent} {x : LV} {u : Value} (hx : x.asSl = some e.2.1) (h : VL G (.agg [x, .p (.int .i64 e.2.2)]) u) : VL G (Hc e).2 u ∧ e.2.1.length ≤ maxLen := by
 cases h with | agg vs h1 h2 h3 =>
 have h0 := Cx hx (h3 0 x rfl)
 refine ⟨.agg vs h1 h2 fun i y hy => ?_, Xt h0⟩
 match i, hy with
 | 0, hy => cases hy; exact .p h0
 | 1, hy => cases hy; exact h3 1 _ rfl
def Gh.join (G' G : Gh) : Gh := { F := G'.F, loc := G.loc, hist := G.hist }
theorem Vr {G : Gh} {st : List LObj} {w : World} (h : WR G st w) {o m bD size n bm : Nat} {es0 : List (List LV)} {kv : List (PV × LV)} (ho : st[o]? = some (.row es0)) (hm : st[m]? = some (.map kv)) (hlo : G.loc o = some (.row bD size n)) (hlm : G.loc m = some (.map bm))
  {G0 G' : Gh} {T0 S' : List LObj} {w' : World} (hx : Fm G0 T0 w bm G' S' w') (hF0 : G0.F = G.F) (hO : ∀ q b, Owns G0 T0 q b → b = bD) {es' : List (List LV)} {kv' : List (PV × LV)}
  (hrow : ∃ arr ty, w'.heap[bD]? = some (.cells arr ty (0, 0)) ∧ arr.size = n * size ∧ es'.length ≤ n ∧ rowOk (G'.join G) arr es' size) (hmap : ∃ es c, w'.heap[bm]? = some (.map es c) ∧ mapOk (G'.join G) es kv' ∧ Stamps es c) (hFD : ∀ off, G'.F bD off = none)
  (hfr : ∀ b o v, G'.F b o = some v → w'.cell? ⟨b, o, none⟩ = some v) :
  WR (G'.join G) ((st.set m (.map kv')).set o (.row es')) w' ∧ Ext0 G st w (G'.join G) ((st.set m (.map kv')).set o (.row es')) w' := by
 have hom : o ≠ m := by rintro rfl; rw [ho] at hm; cases hm
 have hle : G.le (G'.join G) := ⟨fun b off v hv => hx.le.F _ _ _ (by rw [hF0]; exact hv), fun _ _ h => h, fun _ _ _ h => h⟩
 have owo : Owns G st o bD := by unfold Owns; rw [ho]; exact ⟨_, _, hlo⟩
 have owm : Owns G st m bm := by unfold Owns; rw [hm]; exact hlm
 have hDm : bD ≠ bm := fun e => hom (h.uniq o m bD owo (e ▸ owm))
 have un : ∀ b, b ≠ bD → ∀ q, ¬ Owns G0 T0 q b := fun b hb q hq => hb (hO q b hq)
 have hle2 : o < st.length := owo.lt
 have hlm2 : m < st.length := owm.lt
 have get : ∀ {q : Nat} {x : LObj}, ((st.set m (.map kv')).set o (.row es'))[q]? = some x → (q = o ∧ x = .row es') ∨ (q = m ∧ x = .map kv') ∨ (q ≠ o ∧ q ≠ m ∧ st[q]? = some x) := by
  intro q x hq
  by_cases h1 : q = o
  ·subst h1
   rw [List.getElem?_set_self (by simpa using hle2)] at hq
   cases hq; exact .inl ⟨rfl, rfl⟩
  ·rw [List.getElem?_set_ne (Ne.symm h1)] at hq
   by_cases h2 : q = m
   ·subst h2
    rw [List.getElem?_set_self hlm2] at hq
    cases hq; exact .inr (.inl ⟨rfl, rfl⟩)
   ·rw [List.getElem?_set_ne (Ne.symm h2)] at hq
    exact .inr (.inr ⟨h1, h2, hq⟩)
 have ow : ∀ q b, Owns (G'.join G) ((st.set m (.map kv')).set o (.row es')) q b ↔ Owns G st q b := by
  intro q b
  by_cases h1 : q = o
  ·subst h1
   unfold Owns
   rw [List.getElem?_set_self (by simpa using hle2), ho]; exact Iff.rfl
  ·by_cases h2 : q = m
   ·subst h2
    unfold Owns
    rw [List.getElem?_set_ne (Ne.symm h1), List.getElem?_set_self hlm2, hm]; exact Iff.rfl
   ·unfold Owns
    rw [List.getElem?_set_ne (Ne.symm h1), List.getElem?_set_ne (Ne.symm h2)]; exact Iff.rfl
 have same : ∀ q b, Owns G st q b → q ≠ o → q ≠ m → w'.heap[b]? = w.heap[b]? ∧ b ≠ bD ∧ b ≠ bm := by
  intro q b hq h1 h2
  have b1 : b ≠ bD := fun e => h1 (h.uniq q o b hq (e ▸ owo))
  have b2 : b ≠ bm := fun e => h2 (h.uniq q m b hq (e ▸ owm))
  exact ⟨hx.unch b (h.owns_lt hq) b2 (un b b1), b1, b2⟩
 have newF : ∀ b off v, G'.F b off = some v → b < w.heap.size → b ≠ bD → G.F b off = some v := fun b off v hv hb hne => by rw [← hF0]; exact hx.newF b off v hv hb (un b hne)
 refine ⟨⟨hfr, fun q hq => h.dom q (by simpa using hq), ?_, ?_, ?_, ?_, fun q q' b h1 h2 => h.uniq q q' b ((ow q b).1 h1) ((ow q' b).1 h2), ?_, ?_⟩, ?_⟩
 ·intro q es hq l hl
  rcases get hq with ⟨rfl, e⟩ | ⟨_, e⟩ | ⟨h1, h2, hq⟩
  ·cases e
   have hl' : G.loc q = some l := hl
   rw [hlo] at hl'; cases hl'
   obtain ⟨arr, ty, r1, r2, r3, r4⟩ := hrow
   exact ⟨bD, size, n, rfl, arr, ty, r1, r2, r3, r4⟩
  ·cases e
  ·obtain ⟨blk, sz, k, e, arr, ty, hb, r1, r2, r3⟩ := h.row q es hq l hl
   subst e
   have := (same q blk (by unfold Owns; rw [hq]; exact ⟨_, _, hl⟩) h1 h2).1
   exact ⟨blk, sz, k, rfl, arr, ty, this.trans hb, r1, r2, r3.mono hle⟩
 ·intro q kv2 hq l hl
  rcases get hq with ⟨_, e⟩ | ⟨rfl, e⟩ | ⟨h1, h2, hq⟩
  ·cases e
  ·cases e
   have hl' : G.loc q = some l := hl
   rw [hlm] at hl'; cases hl'
   obtain ⟨es, c, r1, r2⟩ := hmap
   exact ⟨bm, rfl, es, c, r1, r2⟩
  ·obtain ⟨blk, e, es, c, hb, r⟩ := h.map q kv2 hq l hl
   subst e
   have := (same q blk (by unfold Owns; rw [hq]; exact hl) h1 h2).1
   exact ⟨blk, rfl, es, c, this.trans hb, r.1.mono hle, r.2⟩
 ·intro q s p hq l hl
  rcases get hq with ⟨_, e⟩ | ⟨_, e⟩ | ⟨h1, h2, hq⟩
  ·cases e
  ·cases e
  ·obtain ⟨blk, e, hb⟩ := h.iter q s p hq l hl
   subst e
   have := (same q blk (by unfold Owns; rw [hq]; exact hl) h1 h2).1
   exact ⟨blk, rfl, this.trans hb⟩
 ·intro q k hw hq
  rcases get hq with ⟨_, e⟩ | ⟨_, e⟩ | ⟨h1, h2, hq⟩
  ·cases e
  ·cases e
  ·obtain ⟨a1, a2⟩ := h.spare q k hw hq
   refine ⟨a1, fun s hs => ?_⟩
   obtain ⟨b1, ⟨arr, ty, hb, b2⟩, b3⟩ := a2 s hs
   obtain ⟨c1, c2, _⟩ := same q s.blk (by unfold Owns; rw [hq]; exact ⟨s, hs, rfl⟩) h1 h2
   refine ⟨b1, ⟨arr, ty, c1.trans hb, b2⟩, fun off hoff => ?_⟩
   cases e : (G'.join G).F s.blk off with
   | none => rfl
   | some v =>
    have h3 := newF s.blk off v e (Ar hb) c2
    rw [b3 off hoff] at h3; cases h3
 ·intro q b hq hns off
  have hq' := (ow q b).1 hq
  by_cases h1 : b = bD
  ·subst h1; exact hFD off
  ·cases e : (G'.join G).F b off with
   | none => rfl
   | some v =>
    have h3 := newF b off v e (h.owns_lt hq') h1
    have h4 := h.ownF q b hq' (fun ⟨k, hw, e⟩ => hns ⟨k, hw, by
     have a1 : q ≠ o := by rintro rfl; rw [ho] at e; cases e
     have a2 : q ≠ m := by rintro rfl; rw [hm] at e; cases e
     rw [List.getElem?_set_ne (Ne.symm a1), List.getElem?_set_ne (Ne.symm a2)]; exact e⟩) off
    rw [h4] at h3; cases h3
 ·intro q x hq hns f
  rcases get hq with ⟨rfl, _⟩ | ⟨rfl, _⟩ | ⟨h1, h2, hq⟩
  ·exact h.kind _ _ ho (fun _ _ e => by cases e) f
  ·exact h.kind _ _ hm (fun _ _ e => by cases e) f
  ·exact h.kind q x hq hns f
 ·refine ⟨hle, hx.os, hx.tape, hx.output, hx.hsz, fun b hb hno => ?_, fun q b hq _ => ⟨q, (ow q b).1 hq⟩, fun b off v hv hb hno => ?_⟩
  ·exact hx.unch b hb (fun e => hno m (e ▸ owm)) (un b (fun e => hno o (e ▸ owo)))
  ·exact newF b off v hv hb (fun e => hno o (e ▸ owo))
theorem Rs {α : Type} {l : List α} {i : Nat} {x : α} (h : l[i]? = some x) : l.set i x = l := by
 apply List.ext_getElem?
 intro j
 by_cases e : i = j
 ·subst e; rw [List.getElem?_set_self (List.getElem?_eq_some_iff.1 h).1, h]
 ·rw [List.getElem?_set_ne e]
theorem TR.init {G : Gh} {v0 v1 : LV} {u0 u1 : Value} (h0 : VL G v0 u0) (h1 : VL G v1 u1) : TR G (mkT [(0, v0), (1, v1)]) { tmps := #[u0, u1] ++ Array.replicate 72 undef, defers := [] } := by
 refine ⟨by simp [E6], fun i v hv => ?_⟩
 have hi : i < 74 := by have := (List.getElem?_eq_some_iff.1 hv).1; rwa [E6] at this
 simp only [mkT, List.getElem?_map, List.getElem?_range hi, Option.map_some, Option.some.injEq] at hv
 subst hv
 rw [Array.getD_eq_getD_getElem?]
 match i with
 | 0 => rw [Array.getElem?_append_left (by simp)]; exact h0
 | 1 => rw [Array.getElem?_append_left (by simp)]; exact h1
 | i + 2 => exact .und _
theorem Xv {P : Program} {lp : A1} (hpr : PR P lp) {N f K tM kt e : Nat} (hp : Cu P f = true) {fn : Func} (hf : P.funcs[f]? = some fn) {o : CrashOps} (C : L5 P K tM kt e fn o) (hK : ∀ s, B7 lp N K [.p (.str s)] [] = some (.p (.bool (nmB s)), [])) : Fv P f Ih := by
 have hok := Fw hpr N
 refine ⟨hp, fun args st res st' hg G w us hw ha => ?_⟩
 have ha1 := ha.1
 refine calls_of_wp hf C.body ?_
 rw [C.ntmps]
 unfold Ih at hg
 split at hg
 ·-- a nil disk
  rename_i l
  cases hg
  simp only [List.length_cons, List.length_nil] at ha1
  obtain ⟨ul⟩ := us
  match ul, ha1 with
  | [u0, u1], _ =>
   have t0 : TR G (mkT [(0, .p .nilp), (1, l)]) { tmps := #[u0, u1] ++ Array.replicate 72 undef, defers := [] } := .init (ha.2 0 _ rfl) (ha.2 1 _ rfl)
   refine wp_seq (Cy hok C.c0 Tq hw t0 fun a1 w1 G1 g1 g2 g3 g4 => ?_)
   simp only [Exit.then]
   refine wp_seq (wp_seq (Cy hok C.c1 (Z4 rfl) g1 g2 fun a2 w2 G2 k1 k2 k3 k4 => ?_))
   simp only [Exit.then]
   refine wp_cond_true (k2.at 12 (by decide)).bool_inv (wp_seq (Cy hok C.c2 crRun2 k1 k2 fun a3 w3 G3 m1 m2 m3 m4 => ?_))
   simp only [Exit.then]
   refine wp_ret ?_
   simp only [Exit.then]
   exact ⟨by rw [m4, k4, g4], _, results_tmp C.res _ _ _, _, G3, rfl, m1, m2.at 4 (by decide), g3.trans (k3.trans m3)⟩
 ·rename_i q l
  simp only [List.length_cons, List.length_nil] at ha1
  obtain ⟨ul⟩ := us
  match ul, ha1 with
  | [u0, u1], _ =>
  split at hg
  ·cases hg
  rename_i rows hrows
  split at hg
  case h_2 => cases hg
  rename_i m a b c hq
  split at hg
  case h_2 => cases hg
  rename_i kv hkv
  have v0 : VL G (.ptr q 0 0) u0 := ha.2 0 _ rfl
  have v1 : VL G l u1 := ha.2 1 _ rfl
  obtain ⟨bD, size, n, hlo, hu0⟩ := v0.ptr_inv
  obtain ⟨bD', size', n', e0, arr, ty, hbD, r1, r2, r3, r4⟩ := hw.row q _ hq _ hlo
  cases e0
  obtain ⟨um, c1, c2, c3⟩ := r4 0 0 (.mp m) rfl
  obtain ⟨ua, ca1, ca2, ca3⟩ := r4 0 1 (.p a) rfl
  obtain ⟨ub, cb1, cb2, cb3⟩ := r4 0 2 (.p b) rfl
  obtain ⟨uc, cc1, cc2, cc3⟩ := r4 0 3 (.p c) rfl
  obtain ⟨bm, hlm, rfl⟩ := c2.mp_inv
  obtain ⟨bm', e1, es, clock, hbm, hmo, hstp⟩ := hw.map m kv hkv _ hlm
  cases e1
  have hsz : size = 4 := (r3 _ List.mem_cons_self).symm
  have hqm : q ≠ m := by rintro rfl; rw [hq] at hkv; cases hkv
  have owq : Owns G st q bD := by unfold Owns; rw [hq]; exact ⟨_, _, hlo⟩
  have owm : Owns G st m bm := by unfold Owns; rw [hkv]; exact hlm
  have hDm : bD ≠ bm := fun e => hqm (hw.uniq q m bD owq (e ▸ owm))
  obtain ⟨G0, hG0⟩ : ∃ G0 : Gh, G0 = { F := G.F, loc := fun x => if x = 0 then some (.row bD size n) else if x = 1 then some (.map bm) else none, hist := fun _ _ => none } := ⟨_, rfl⟩
  have hF0 : G0.F = G.F := by rw [hG0]
  have hl0 : G0.loc 0 = some (.row bD size n) := by rw [hG0]; rfl
  have hl1 : G0.loc 1 = some (.map bm) := by rw [hG0]; rfl
  have hO : ∀ x bb, Owns G0 (S0 a b c) x bb → bb = bD := by
   intro x bb hx
   match x, hx with
   | 0, hx =>
    unfold Owns at hx
    obtain ⟨s', n', h'⟩ := (hx : ∃ size n, G0.loc 0 = some (.row bb size n))
    rw [hl0] at h'; cases h'; rfl
   | 1, hx => exact absurd hx (by unfold Owns; simp [S0])
   | x + 2, hx => exact absurd hx.lt (by simp [S0])
  have vpF : ∀ {p : PV} {u : Value}, VL G (.p p) u → VL G0 (.p p) u := fun h => h.pure rfl (by rw [hF0]; exact fun _ _ _ h => h)
  have cells4 : ∀ {Gx : Gh} {arr' : Array Value} {mm : Nat} {a' b' c' : PV}, (∃ u, arr'[0]? = some u ∧ VL Gx (.mp mm) u ∧ u.oneCell' = true) → (∃ u, arr'[1]? = some u ∧ VL Gx (.p a') u ∧ u.oneCell' = true) → (∃ u, arr'[2]? = some u ∧ VL Gx (.p b') u ∧ u.oneCell' = true) → (∃ u, arr'[3]? = some u ∧ VL Gx (.p c') u ∧ u.oneCell' = true) →
    rowOk Gx arr' [[.mp mm, .p a', .p b', .p c']] size := by
   intro Gx arr' mm a' b' c' h0 h1 h2 h3
   refine ⟨fun e he => by simp only [List.mem_cons, List.not_mem_nil, or_false] at he; subst he; rw [hsz]; rfl, fun i j x hij => ?_⟩
   match i, hij with
   | 0, hij =>
    match j, hij with
    | 0, hij => cases hij; simpa using h0
    | 1, hij => cases hij; simpa using h1
    | 2, hij => cases hij; simpa using h2
    | 3, hij => cases hij; simpa using h3
    | j + 4, hij => simp [at2] at hij
   | i + 1, hij => simp [at2] at hij
  simp only [Nat.zero_mul, Nat.zero_add] at c1 ca1 cb1 cc1
  have w0 : WR G0 (S0 a b c) w := by
   refine ⟨by rw [hF0]; exact hw.fr, fun x hx => ?_, ?_, ?_, ?_, ?_, fun x x' bb h1 h2 => ?_, ?_, ?_⟩
   ·have : 2 ≤ x := by simpa [S0] using hx
    rw [hG0]; exact ⟨by simp only; rw [if_neg (by omega), if_neg (by omega)], fun _ => rfl⟩
   ·intro x es' hx l' hl'
    match x, hx with
    | 0, hx =>
     cases hx
     rw [hl0] at hl'; cases hl'
     exact ⟨bD, size, n, rfl, arr, ty, hbD, r1, r2, cells4 ⟨_, c1, .mp hl1, c3⟩ ⟨_, ca1, vpF ca2, ca3⟩ ⟨_, cb1, vpF cb2, cb3⟩ ⟨_, cc1, vpF cc2, cc3⟩⟩
    | 1, hx => cases hx
   ·intro x kv' hx; match x, hx with
    | 0, hx => cases hx
    | 1, hx => cases hx
   ·intro x s' p' hx; match x, hx with
    | 0, hx => cases hx
    | 1, hx => cases hx
   ·intro x s' p' hx; match x, hx with
    | 0, hx => cases hx
    | 1, hx => cases hx
   ·match x, x', h1, h2 with
    | 0, 0, _, _ => rfl
    | 0, 1, _, h2 => exact absurd h2 (by unfold Owns; simp [S0])
    | 1, _, h1, _ => exact absurd h1 (by unfold Owns; simp [S0])
    | x + 2, _, h1, _ => exact absurd h1.lt (by simp [S0])
    | _, x' + 2, _, h2 => exact absurd h2.lt (by simp [S0])
   ·intro x bb hx _ off
    rw [hF0, hO x bb hx]
    exact hw.ownF q bD owq (fun ⟨k, hw', e⟩ => by rw [hq] at e; cases e) off
   ·intro x y hx _ f; rw [hG0]
  have hnob : ∀ x, ¬ Owns G0 (S0 a b c) x bm := fun x hx => hDm (hO x bm hx).symm
  have t0 : TR G0 (mkT [(0, dP), (1, .p (.sl rows))]) { tmps := #[u0, u1] ++ Array.replicate 72 undef, defers := [] } := by
   refine .init ?_ (VL.pure (.p (Cx hrows v1)) rfl (by rw [hF0]; exact fun _ _ _ h => h))
   rw [hu0]
   simp only [Nat.zero_mul]
   have := VL.ptr (G := G0) (o := 0) (i := 0) (off := 0) hl0
   simpa using this
  have hrl : rows.length ≤ maxLen := Xt (Cx hrows v1)
  -- the code
  refine wp_seq (Cy hok C.c0 Tq w0 t0 fun a1 w1 G1 g1 g2 g3 g4 => ?_)
  simp only [Exit.then]
  refine wp_seq (wp_seq (Cy hok C.c1 (crRun1 rfl) g1 g2 fun a2 w2 G2 k1 k2 k3 k4 => ?_))
  simp only [Exit.then]
  refine wp_cond_false (k2.at 12 (by decide)).bool_inv (wp_skip ?_)
  simp only [Exit.then]
  refine wp_seq (Cy hok C.c3 (crRun3 (L := .p (.sl rows))) k1 (k2.forget _ ⟨rfl, rfl, rfl, trivial⟩) fun a3 w3 G3 m1 m2 m3 m4 => ?_)
  simp only [Exit.then]
  refine wp_seq (wp_seq (Cy hok C.c4 (crRun4 (rows := rows)) m1 (m2.forget _ ⟨rfl, rfl, rfl, trivial⟩) fun a4 w4 G4 n1 n2 n3 n4 => ?_))
  simp only [Exit.then]
  have x04 : Ext0 G0 (S0 a b c) w G4 (S1 a b c []) w4 := g3.trans (k3.trans (m3.trans n3))
  have hdf4 : a4.defers = [] := by rw [n4, m4, k4, g4]
  have fin : ∀ {Gx : Gh} {Sx : List LObj} {wx : World} {a' b' c' : PV} {kv' : List (PV × LV)} {ksx}, Fm G0 (S0 a b c) w bm Gx Sx wx → WR Gx Sx wx → (Sx = S1 a' b' c' ksx ∨ Sx = S2 a' b' c' ksx) →
    (∃ es c, wx.heap[bm]? = some (.map es c) ∧ mapOk (Gx.join G) es kv' ∧ Stamps es c) →
    WR (Gx.join G) ((st.set m (.map kv')).set q (.row [[.mp m, .p a', .p b', .p c']])) wx ∧ Ext0 G st w (Gx.join G) ((st.set m (.map kv')).set q (.row [[.mp m, .p a', .p b', .p c']])) wx := by
   intro Gx Sx wx a' b' c' kv' ksx hfm hwx hS hmap
   have hS0 : Sx[0]? = some (.row [[.mp 1, .p a', .p b', .p c']]) := by rcases hS with rfl | rfl <;> rfl
   have hlx : Gx.loc 0 = some (.row bD size n) := hfm.le.loc _ _ hl0
   have hlx1 : Gx.loc 1 = some (.map bm) := hfm.le.loc _ _ hl1
   obtain ⟨bD', s', n', e0, arr', ty', hb', q1, q2, q3, q4⟩ := hwx.row 0 _ hS0 _ hlx
   cases e0
   have q40 := q4 0 0 (.mp 1) rfl
   have q41 := q4 0 1 (.p a') rfl
   have q42 := q4 0 2 (.p b') rfl
   have q43 := q4 0 3 (.p c') rfl
   simp only [Nat.zero_mul, Nat.zero_add] at q40 q41 q42 q43
   have jn : ∀ {p : PV} {i : Nat}, (∃ u, arr'[i]? = some u ∧ VL Gx (.p p) u ∧ u.oneCell' = true) → ∃ u, arr'[i]? = some u ∧ VL (Gx.join G) (.p p) u ∧ u.oneCell' = true := fun ⟨u, z1, z2, z3⟩ => ⟨u, z1, z2.pure rfl (fun _ _ _ h => h), z3⟩
   refine Vr hw hq hkv hlo hlm hfm hF0 hO ⟨arr', ty', hb', q1, by simpa using q2, cells4 ?_ (jn q41) (jn q42) (jn q43)⟩ hmap (fun off => ?_) hwx.fr
   ·obtain ⟨u, z1, z2, z3⟩ := q40
    obtain ⟨bb, z4, rfl⟩ := z2.mp_inv
    rw [hlx1] at z4; cases z4
    exact ⟨_, z1, .mp hlm, z3⟩
   ·exact hwx.ownF 0 bD (by unfold Owns; rw [hS0]; exact ⟨_, _, hlx⟩) (fun ⟨k, hw', e⟩ => by rw [hS0] at e; cases e) off
  split at hg
  ·cases hg
  ·-- a name that may not be
   rename_i hkeep
   cases hg
   refine wp_block (wp_loop_rounds (rows.length + 1) (Ro (df := []) (T0 := S0 a b c) (w0 := w) (G0 := G0) hok C hK (rows := rows) (by have : maxLen = 2 ^ 63 - 1 := rfl; omega) ?_ ?_ rows 0 [] G4 w4 a4 rfl hkeep (by intro x hx; cases hx) n1 (n2.forget _ ⟨rfl, rfl, rfl, rfl, rfl, trivial⟩) x04 hdf4))
   ·intro a' w' G' ks' e; cases e
   ·intro a5 w5 G5 ks' _ p1 p2 p3 p4
    simp only [Exit.inBlock, Exit.then]
    have hb5 : w5.heap[bm]? = w.heap[bm]? := p3.unch bm (Ar hbm) hnob
    obtain ⟨f1, f2⟩ := fin (kv' := kv) (p3.fm bm) p1 (.inl rfl) ⟨es, clock, hb5.trans hbm, hmo.mono (show G.le (G5.join G) from ⟨fun _ _ _ h => p3.le.F _ _ _ (by rw [hF0]; exact h), fun _ _ h => h, fun _ _ _ h => h⟩), hstp⟩
    have est : (st.set m (.map kv)).set q (.row [[.mp m, .p a, .p b, .p c]]) = st := by
     rw [Rs hkv, Rs hq]
    rw [est] at f1 f2
    exact ⟨p4, _, results_tmp C.res _ _ _, _, _, rfl, f1, (p2.at 4 (by decide)).pure rfl (fun _ _ _ h => h), f2⟩
  ·rename_i ks hkeep
   split at hg
   ·cases hg
   rename_i E hE
   split at hg
   case isFalse => cases hg
   rename_i hnd
   cases hg
   obtain ⟨he1, he2⟩ := Nd hE
   have hEok : ∀ x ∈ E, (x.2.1.all fun e => e.length == 1) = true ∧ 0 ≤ x.2.2 ∧ x.2.2 ≤ x.2.1.length ∧ x.2.1.length ≤ 9223372036854775807 := by
    intro x hx
    obtain ⟨i, hi⟩ := List.getElem?_of_mem hx
    have hil : i < kv.length := by rw [← he1]; exact (List.getElem?_eq_some_iff.1 hi).1
    obtain ⟨x', hx1, hx2⟩ := he2 i kv[i] (by simp [hil])
    rw [hi] at hx1; cases hx1
    obtain ⟨y, h1, h2, h3, h4, h5⟩ := O0 hx2
    obtain ⟨me, z1, z2, z3⟩ := hmo.2 i _ _ (show kv[i]? = some (PV.str x.1, LV.agg [y, .p (.int .i64 x.2.2)]) by rw [← h1]; simp [hil])
    have := (Xu h2 z3).2
    exact ⟨h3, h4, h5, this⟩
   have hndp : (E.map (·.1)).Nodup := If hnd
   refine wp_block (wp_loop_rounds (rows.length + 1) (Ro (df := []) (T0 := S0 a b c) (w0 := w) (G0 := G0) hok C hK (rows := rows) (by have : maxLen = 2 ^ 63 - 1 := rfl; omega) ?_ ?_ rows 0 [] G4 w4 a4 rfl hkeep (by intro x hx; cases hx) n1 (n2.forget _ ⟨rfl, rfl, rfl, rfl, rfl, trivial⟩) x04 hdf4))
   ·intro a5 w5 G5 ks' e hko p1 p2 p3 p4
    cases e
    simp only [Exit.inBlock, if_true, Exit.then]
    have hb5 : w5.heap[bm]? = some (.map es clock) := (p3.unch bm (Ar hbm) hnob).trans hbm
    refine wp_seq (wp_seq (wp_region ?_))
    rw [C.s11, show List.range 5 = List.range' 0 4 ++ [4] from rfl]
    have hpart := Ha (P := P) (Q := Exit.then ((Code.block 2 (.loop o.walk)).wp P (Exit.then ((Code.seq (.region 16 o.o16 false) (.seq (.region 17 o.o17 false) .ret)).wp P (bodyPost P fn fun e w' => ∃ u G', e = Ending.returned u ∧ WR G' ((st.set m (.map (E.map (Cm ks)))).set q (.row [[.mp m, .p (.int .i64 (-1)), .p (.int .i64 0), .p (.bool false)]])) w' ∧ VL G' (.p (.int .i64 0)) u ∧ Ext0 G st w G' ((st.set m (.map (E.map (Cm ks)))).set q (.row [[.mp m, .p (.int .i64 (-1)), .p (.int .i64 0), .p (.bool false)]])) w')) (bodyPost P fn fun e w' => ∃ u G', e = Ending.returned u ∧ WR G' ((st.set m (.map (E.map (Cm ks)))).set q (.row [[.mp m, .p (.int .i64 (-1)), .p (.int .i64 0), .p (.bool false)]])) w' ∧ VL G' (.p (.int .i64 0)) u ∧ Ext0 G st w G' ((st.set m (.map (E.map (Cm ks)))).set q (.row [[.mp m, .p (.int .i64 (-1)), .p (.int .i64 0), .p (.bool false)]])) w'))) (Exit.then ((Code.seq (.region 16 o.o16 false) (.seq (.region 17 o.o17 false) .ret)).wp P (bodyPost P fn fun e w' => ∃ u G', e = Ending.returned u ∧ WR G' ((st.set m (.map (E.map (Cm ks)))).set q (.row [[.mp m, .p (.int .i64 (-1)), .p (.int .i64 0), .p (.bool false)]])) w' ∧ VL G' (.p (.int .i64 0)) u ∧ Ext0 G st w G' ((st.set m (.map (E.map (Cm ks)))).set q (.row [[.mp m, .p (.int .i64 (-1)), .p (.int .i64 0), .p (.bool false)]])) w')) (bodyPost P fn fun e w' => ∃ u G', e = Ending.returned u ∧ WR G' ((st.set m (.map (E.map (Cm ks)))).set q (.row [[.mp m, .p (.int .i64 (-1)), .p (.int .i64 0), .p (.bool false)]])) w' ∧ VL G' (.p (.int .i64 0)) u ∧ Ext0 G st w G' ((st.set m (.map (E.map (Cm ks)))).set q (.row [[.mp m, .p (.int .i64 (-1)), .p (.int .i64 0), .p (.bool false)]])) w')))
     (rest := [4]) hok (o.o11.toList.take 4) 0 cr11 (by
     intro i hi
     simp only [List.length_take, Array.length_toList, C.s11] at hi
     rw [List.getElem?_take, if_pos (by omega)]
     simp) C.c11 (Z6 (a := a) (b := b) (c := c) (ks := ks)) p1 p2 (fun a6 w6 G6 q1 q2 q3 q4 => ?_)
    ·rw [show (o.o11.toList.take 4).length = 4 by simp [C.s11]] at hpart
     exact hpart
    ·have x06 : Ext0 G0 (S0 a b c) w G6 (S1 a b c ks) w6 := p3.trans q3
     have hb6 : w6.heap[bm]? = some (.map es clock) := (x06.unch bm (Ar hbm) hnob).trans hbm
     have hl61 : G6.loc 1 = some (.map bm) := x06.le.loc _ _ hl1
     have h34 : a6.tmps.getD 34 undef = .map (some bm) := by
      obtain ⟨bb, z1, z2⟩ := (q2.at 34 (by decide)).mp_inv
      rw [hl61] at z1; cases z1; exact z2
     have hrg := run_range_map (P := P) w6 tM kt e bm es clock C.tm hb6
     have hx11 : (execOp a6.eval o.x11).run P w6 = .ok (.value (.pointer (some ⟨w6.heap.size, 0, none⟩))) (w6.alloc (.mapIter (some bm) clock #[] clock)) := by
      have := C.p11.1
      simp only [execOp, this, Act.eval, h34, Sem.run_bind, hrg, Result.andThen_ok, Sem.run_pure]
     refine F3 C.h11 C.p11.2.2 hx11 ?_
     rw [C.p11.2.1]
     show Exit.then _ _ .normal _ _
     simp only [Exit.then]
     obtain ⟨w7, hw7⟩ : ∃ w7, w6.alloc (.mapIter (some bm) clock #[] clock) = w7 := ⟨_, rfl⟩
     rw [hw7]
     have h7old : ∀ x, x < w6.heap.size → w7.heap[x]? = w6.heap[x]? := fun x hx => by rw [← hw7]; exact Bi hx
     have h7new : w7.heap[w6.heap.size]? = some (.mapIter (some bm) clock #[] clock) := by rw [← hw7]; exact heap_alloc_new _ _
     have q1' : WR G6 (S1 a b c ks) w7 := q1.same (fun x bb hx => h7old bb (q1.owns_lt hx)) (fun bb off v hv => h7old bb (q1.fr_lt hv))
     have wr7 : WR (G6.addLoc 3 (.iter w6.heap.size)) (S2 a b c ks) w7 := q1'.addDead (.iter w6.heap.size)
     have hle7 : G6.le (G6.addLoc 3 (.iter w6.heap.size)) := Gh.le_addLoc (q1.dom 3 (Nat.le_refl _)).1
     have hl73 : (G6.addLoc 3 (.iter w6.heap.size)).loc 3 = some (.iter w6.heap.size) := by simp [Gh.addLoc]
     have hOw : ∀ x bb, Owns (G6.addLoc 3 (.iter w6.heap.size)) (S2 a b c ks) x bb → Owns G6 (S1 a b c ks) x bb := by
      intro x bb hx
      match x, hx with
      | 0, hx => exact hx
      | 1, hx => exact absurd hx (by unfold Owns; simp [S2])
      | 2, hx => exact hx
      | 3, hx => exact absurd hx (by unfold Owns; simp [S2])
      | x + 4, hx => exact absurd hx.lt (by simp [S2])
     have hfm7 : Fm G0 (S0 a b c) w bm (G6.addLoc 3 (.iter w6.heap.size)) (S2 a b c ks) w7 := by
      have f6 := x06.fm bm
      refine ⟨f6.le.trans hle7, by rw [← hw7]; exact f6.os, by rw [← hw7]; exact f6.tape, by rw [← hw7]; exact f6.output, Nat.le_trans f6.hsz (by rw [← hw7]; simp), fun bb hb hne ho => (h7old bb (Nat.lt_of_lt_of_le hb f6.hsz)).trans (f6.unch bb hb hne ho), fun x bb hx hb => f6.own x bb (hOw x bb hx) hb, f6.newF⟩
     have t7 : TR (G6.addLoc 3 (.iter w6.heap.size)) (mkT fB) (a6.put (some 35) (.pointer (some ⟨w6.heap.size, 0, none⟩))) :=
      ((q2.mono hle7).putM (.it hl73) 35 (by decide)).forget _ ⟨rfl, rfl, rfl, trivial⟩
     have hmo7 : mapOk (G6.addLoc 3 (.iter w6.heap.size)) es (F8 ks E (E.map fun _ => false)) := by
      rw [Oy]
      refine ⟨by rw [hmo.1, ← he1, List.length_map], fun i k v hi => ?_⟩
      rw [List.getElem?_map, Option.map_eq_some_iff] at hi
      obtain ⟨x, hx, hxe⟩ := hi
      have hil : i < kv.length := by rw [← he1]; exact (List.getElem?_eq_some_iff.1 hx).1
      obtain ⟨x', hx1, hx2⟩ := he2 i kv[i] (by simp [hil])
      rw [hx] at hx1; cases hx1
      obtain ⟨y, h1, h2, h3, h4, h5⟩ := O0 hx2
      obtain ⟨me, z1, z2, z3⟩ := hmo.2 i _ _ (show kv[i]? = some (PV.str x.1, LV.agg [y, .p (.int .i64 x.2.2)]) by rw [← h1]; simp [hil])
      simp only [Hc, Prod.mk.injEq] at hxe
      obtain ⟨rfl, rfl⟩ := hxe
      have hFl : ∀ b o v, G.F b o = some v → (G6.addLoc 3 (.iter w6.heap.size)).F b o = some v := fun b o v h => x06.le.F _ _ _ (by rw [hF0]; exact h)
      exact ⟨me, z1, z2.mono hFl, (Xu h2 z3).1.pure rfl hFl⟩
     refine wp_block (wp_loop_rounds (E.length + 1) (Vq (df := []) hok C (G0 := G0) (T0 := S0 a b c) (w0 := w) hko hEok hndp (bm := bm) (r := w6.heap.size) (Ar hbm) hnob x06.hsz (since := clock) (clock := clock) ?_ (E.length + 1) es #[] (E.map fun _ => false) clock _ w7 _ ?_ ⟨(h7old bm (Ar hb6)).trans hb6, hmo7, hstp, h7new, hstp.1, Nat.le_refl _, Nat.le_refl _, by simp, ?_⟩ wr7 t7 hfm7 (hle7.loc _ _ hl61) hl73 ?_ ?_))
     ·intro a8 w8 G8 es8 seen8 dn8 c8 I8 hall wr8 t8 fm8 hl8 df8
      simp only [Exit.inBlock, if_true, Exit.then]
      obtain ⟨f16, hr16⟩ := crRun16 (call := B7 lp N) (a := a) (b := b) (c := c) (ks := ks)
      refine wp_seq (Cy hok C.c16 hr16 wr8 t8 fun a9 w9 G9 y1 y2 y3 y4 => ?_)
      simp only [Exit.then]
      refine wp_seq (Cy hok C.c17 Tq y1 y2 fun a10 w10 G10 z1 z2 z3 z4 => ?_)
      simp only [Exit.then]
      refine wp_ret ?_
      have x810 := y3.trans z3
      have hb10 : w10.heap[bm]? = some (.map es8 clock) := (fm8.keeps x810 (Ar hbm) hnob).trans I8.hb
      have hmo10 : mapOk (G10.join G) es8 (E.map (Cm ks)) := by
       have h := I8.hmo
       rw [Rq I8.hdl hall] at h
       refine ⟨h.1, fun i k v hi => ?_⟩
       obtain ⟨me, b1, b2, b3⟩ := h.2 i k v hi
       rw [List.getElem?_map, Option.map_eq_some_iff] at hi
       obtain ⟨x, hx, hxe⟩ := hi
       have hr : v.refs = [] := by have := Rr ks x true; simp only [if_true, hxe] at this; exact this
       exact ⟨me, b1, b2.mono x810.le.F, b3.pure hr x810.le.F⟩
      obtain ⟨f1, f2⟩ := fin (fm8.step x810) z1 (.inr rfl) ⟨es8, clock, hb10, hmo10, I8.hst⟩
      exact ⟨by rw [z4, y4, df8], _, results_tmp C.res _ _ _, _, _, rfl, f1, (z2.at 4 (by decide)).pure rfl (fun _ _ _ h => h), f2⟩
     ·have : ∀ (l : List Ent), (l.map fun _ => false).count false = l.length := fun l => by induction l with
       | nil => rfl
       | cons x l ih => simp only [List.map_cons, List.count_cons, ih]; simp
      rw [this]; omega
     ·intro i x hx
      have hil : i < E.length := by rw [he1, ← hmo.1]; exact (Array.getElem?_eq_some_iff.1 hx).1
      simp [hil]
     ·intro x hx
      have := q1.owns_lt (hOw x _ hx)
      omega
     ·show a6.defers = []
      rw [q4, p4]
   ·intro a' w' G' ks' e; cases e
 ·cases hg
end Go.LS
set_option linter.unusedVariables false
set_option linter.unusedSimpArgs false
namespace Go.LS
def nameFn : LFn := ⟨11, [.tmp 2],
 .seq (.region [⟨some 2, .mv (.const (.p (.bool false))), none⟩])
 (.seq (.region [⟨some 3, .mv (.tmp 0), none⟩, ⟨some 4, .slen (.tmp 3), none⟩, ⟨some 5, .bin .geq (.tmp 4) (.const (.p (.int .i64 1))), none⟩, ⟨some 6, .mv (.tmp 5), none⟩, ⟨some 7, .mv (.tmp 0), (some (6, true))⟩, ⟨some 8, .slen (.tmp 7), (some (6, true))⟩, ⟨some 9, .bin .leq (.tmp 8) (.const (.p (.int .i64 24))), (some (6, true))⟩, ⟨some 10, .pick (.tmp 6) (.tmp 9) (.const (.p (.bool false))), none⟩, ⟨some 2, .mv (.tmp 10), none⟩])
 (.ret [false, false, true, false, false, false, false, false, false, false, false]))⟩
theorem Jp {lp : A1} {K : Nat} (hs : lp.summ K = none) (hf : lp.fns K = some nameFn) (s : List UInt8) : B7 lp 8 K [.p (.str s)] [] = some (.p (.bool (nmB s)), []) := by
 have hw : wk (lp.weak K) [.p (.str s)] = [.p (.str s)] := by cases lp.weak K <;> rfl
 have hz : ∀ b st, frz (lp.wres K) st [.p (.bool b)] = ([.p (.bool b)], st) := fun b st => by cases lp.wres K <;> rfl
 unfold B7
 simp only [hs, hf, hw]
 have hr : Au (B7 lp 7) ([] : List LObj).length 7 nameFn.body ([LV.p (.str s)] ++ List.replicate (nameFn.ntmps - [LV.p (.str s)].length) .und) [] = some (.ret, [.und, .und, .p (.bool (nmB s)), .und, .und, .und, .und, .und, .und, .und, .und], []) := by
  have e2 : decide ((s.length : Int) ≤ 24) = decide (s.length ≤ 24) := by rw [decide_eq_decide]; omega
  cases h : decide (1 ≤ s.length)
  ·have e1 : decide ((s.length : Int) ≥ 1) = false := by rw [← h]; simp; omega
   simp only [nmB, h, Bool.false_and]
   simp [nameFn, Au, Ch, Bd, Bz, gd, Ag, LX.ev, Ew, List.replicate, St, Wn, kill, e1]
  ·have e1 : decide ((s.length : Int) ≥ 1) = true := by rw [← h]; simp; omega
   simp only [nmB, h, Bool.true_and]
   simp [nameFn, Au, Ch, Bd, Bz, gd, Ag, LX.ev, Ew, List.replicate, St, Wn, kill, e1, e2]
 rw [hr]
 simp only [nameFn, Hx, List.getD, List.getElem?_cons_succ, List.getElem?_cons_zero, Option.getD_some]
 rw [hz]
 rfl
def Rt (fn : Func) : CrashOps := match fn.body with
 | some c => (match Xr c with
  | some o => o
  | none => ⟨#[], #[], #[], #[], #[], #[], #[], #[], #[], #[], #[], #[], #[], #[], #[], #[], #[], #[], ⟨none, .assign (.tmp 0), 0, "", #[], none⟩, ⟨none, .assign (.tmp 0), 0, "", #[], none⟩, ⟨none, .assign (.tmp 0), 0, "", #[], none⟩, ⟨none, .assign (.tmp 0), 0, "", #[], none⟩⟩)
 | none => ⟨#[], #[], #[], #[], #[], #[], #[], #[], #[], #[], #[], #[], #[], #[], #[], #[], #[], #[], ⟨none, .assign (.tmp 0), 0, "", #[], none⟩, ⟨none, .assign (.tmp 0), 0, "", #[], none⟩, ⟨none, .assign (.tmp 0), 0, "", #[], none⟩, ⟨none, .assign (.tmp 0), 0, "", #[], none⟩⟩
def Ur (fn : Func) : Nat := match (Rt fn).x11.op with
 | .range t _ => t
 | _ => 0
def Us (P : Program) (fn : Func) : Nat × Nat := match P.underlying (Ur fn) with
 | some (.map k e) => (k, e)
 | _ => (0, 0)
end Go.LS
set_option linter.unusedVariables false
set_option linter.unusedSimpArgs false
namespace Go.LS
theorem Runs.uniq {lp : A1} {f : FuncId} {args : List LV} {st : List LObj} {r r' : LV × List LObj} (h : Runs lp f args st r) (k : Runs lp f args st r') : r = r' := by
 obtain ⟨n, hn⟩ := h.at
 obtain ⟨m, hm⟩ := k.at
 have a := hn (max n m) (Nat.le_max_left ..)
 have b := hm (max n m) (Nat.le_max_right ..)
 rw [a] at b
 exact Option.some.inj b
open Classical in
noncomputable def sLim (lp : A1) (f : FuncId) (args : List LV) (st : List LObj) : Option (LV × List LObj) := if h : ∃ r, Runs lp f args st r then some h.choose else none
theorem Ut {lp : A1} {f : FuncId} {args : List LV} {st : List LObj} {r : LV × List LObj} (h : Runs lp f args st r) : sLim lp f args st = some r := by
 unfold sLim
 rw [dif_pos ⟨r, h⟩]
 exact congrArg some (Runs.uniq (Exists.choose_spec (⟨r, h⟩ : ∃ r, Runs lp f args st r)) h)
def frzMap : LObj → LObj
 | .map kv => .map (kv.map fun x => (x.1, x.2.weak))
 | x => x
noncomputable def sFzL (lp : A1) (f : FuncId) (args : List LV) (st : List LObj) : Option (LV × List LObj) := match sLim lp f args st with
 | some (v, st') => match gc st.length [v] (st'.map frzMap) with
  | some ([v'], st2) => some (v', st2)
  | _ => none
 | none => none
theorem WR.frzMap {G : Gh} {st : List LObj} {w : World} (h : WR G st w) : WR G (st.map frzMap) w := by
 have gr : ∀ {o : Nat} {x : LObj}, (st.map LS.frzMap)[o]? = some x → ∃ y, st[o]? = some y ∧ LS.frzMap y = x := fun e => by rw [List.getElem?_map, Option.map_eq_some_iff] at e; exact e
 have ow : ∀ o b, Owns G (st.map LS.frzMap) o b → Owns G st o b := by
  intro o b ho
  unfold Owns at ho ⊢
  rw [List.getElem?_map] at ho
  cases e : st[o]? with
  | none => rw [e] at ho; exact ho
  | some y => rw [e] at ho; cases y <;> exact ho
 refine ⟨h.fr, fun o ho => h.dom o (by simpa using ho), ?_, ?_, ?_, ?_, fun o o' b h1 h2 => h.uniq o o' b (ow o b h1) (ow o' b h2), fun o b ho hn off => h.ownF o b (ow o b ho) (fun ⟨n, hw, e⟩ => hn ⟨n, hw, by rw [List.getElem?_map, e]; rfl⟩) off, ?_⟩
 ·intro o es ho l hl
  obtain ⟨y, hy, e⟩ := gr ho
  cases y <;> cases e
  exact h.row o es hy l hl
 ·intro o kv ho l hl
  obtain ⟨y, hy, e⟩ := gr ho
  cases y <;> cases e
  rename_i kv0
  obtain ⟨blk, e, es, c, hb, m, hs⟩ := h.map o kv0 hy l hl
  refine ⟨blk, e, es, c, hb, ⟨by simpa using m.1, fun i k v hi => ?_⟩, hs⟩
  rw [List.getElem?_map, Option.map_eq_some_iff] at hi
  obtain ⟨x, hx, hxe⟩ := hi
  cases hxe
  obtain ⟨me, z1, z2, z3⟩ := m.2 i x.1 x.2 hx
  exact ⟨me, z1, z2, z3.weak⟩
 ·intro o s p ho l hl
  obtain ⟨y, hy, e⟩ := gr ho
  cases y <;> cases e
  exact h.iter o s p hy l hl
 ·intro o n hw ho
  obtain ⟨y, hy, e⟩ := gr ho
  cases y <;> cases e
  exact h.spare o n hw hy
 ·intro o x ho hx f
  obtain ⟨y, hy, e⟩ := gr ho
  refine h.kind o y hy (fun n hw e' => ?_) f
  subst e'
  exact hx n hw e.symm
theorem Ext0.frzMap {G G' : Gh} {S S' : List LObj} {w w' : World} (h : Ext0 G S w G' S' w') : Ext0 G S w G' (S'.map frzMap) w' := by
 refine ⟨h.le, h.os, h.tape, h.output, h.hsz, h.unch, fun o b ho hb => h.own o b ?_ hb, h.newF⟩
 unfold Owns at ho ⊢
 rw [List.getElem?_map] at ho
 cases e : S'[o]? with
 | none => rw [e] at ho; exact ho
 | some y => rw [e] at ho; cases y <;> exact ho
theorem O1 {lp : A1} {f : FuncId} {args : List LV} {st : List LObj} {r : LV × List LObj} (h : sLim lp f args st = some r) : Runs lp f args st r := by
 unfold sLim at h
 split at h
 ·rename_i h'
  cases h
  exact h'.choose_spec
 ·cases h
theorem sLim_ok {P : Program} {lp : A1} (hp : PR P lp) {f : FuncId} (hf : Cu P f = true) : Fv P f (sLim lp f) := by
 refine ⟨hf, fun args st res st' h => ?_⟩
 obtain ⟨n, hn⟩ := O1 h
 exact (Fw hp n f args st res st' hn).2
theorem sFzL_ok {P : Program} {lp : A1} (hp : PR P lp) {f : FuncId} (hf : Cu P f = true) : Fv P f (sFzL lp f) := by
 refine ⟨hf, fun args st res st' h G w us hw ha => ?_⟩
 unfold sFzL at h
 split at h
 ·rename_i v st1 h1
  obtain ⟨n, hn⟩ := O1 h1
  split at h
  ·rename_i v' st2 hg
   cases h
   refine ((Fw hp n f args st v st1 hn).2 G w us hw ha).mono ?_
   rintro e w' ⟨u, G', rfl, wr, vl, ex⟩
   obtain ⟨G2, k1, k2, k3, k4⟩ := Je wr.frzMap ex.frzMap hw.dom hg (us := [u]) rfl (fun i v u hv hu => by
    cases i with
    | zero => cases hv; cases hu; exact vl
    | succ i => simp at hv)
   exact ⟨u, G2, rfl, k1, k4 0 _ _ rfl rfl, k2⟩
  ·cases h
 ·cases h
noncomputable def lpL (lp : A1) (lims fz : List Nat) : A1 := { lp with summ := fun f => if fz.contains f then some (sFzL lp f) else if lims.contains f then some (sLim lp f) else lp.summ f }
theorem prL {P : Program} {lp : A1} (hp : PR P lp) (lims fz : List Nat) (h : ((lims ++ fz).all fun f => Cu P f) = true) : PR P (lpL lp lims fz) := by
 refine ⟨hp.fns, fun f g hg => ?_⟩
 have h' : ∀ f, f ∈ lims ++ fz → Cu P f = true := fun f hf => List.all_eq_true.1 h f hf
 simp only [lpL] at hg
 split at hg
 ·rename_i hc
  cases hg
  exact sFzL_ok hp (h' f (List.mem_append_right _ (by simpa using hc)))
 ·split at hg
  ·rename_i hc
   cases hg
   exact sLim_ok hp (h' f (List.mem_append_left _ (by simpa using hc)))
  ·exact hp.summ f g hg
theorem Runs.lim {lp : A1} {lims fz : List Nat} {f : FuncId} {args : List LV} {st : List LObj} {r : LV × List LObj} (h : Runs lp f args st r) (h1 : fz.contains f = false) (h2 : lims.contains f = true) : Runs (lpL lp lims fz) f args st r := by
 refine ⟨1, ?_⟩
 simp only [B7, lpL, h1, h2, if_true, Bool.false_eq_true, if_false]
 exact Ut h
theorem Runs.fz {lp : A1} {lims fz : List Nat} {f : FuncId} {args : List LV} {st st1 st2 : List LObj} {v v' : LV} (h : Runs lp f args st (v, st1)) (hg : gc st.length [v] (st1.map frzMap) = some ([v'], st2)) (h1 : fz.contains f = true) : Runs (lpL lp lims fz) f args st (v', st2) := by
 refine ⟨1, ?_⟩
 simp only [B7, lpL, h1, if_true]
 unfold sFzL
 rw [Ut h]
 simp only [hg]
abbrev Ak := List UInt8 × List UInt8 × Int
def H3 (e : Ak) : PV × LV := (.str e.1, .agg [.p (.sl (bs e.2.1)), .p (.int .i64 e.2.2)])
def kvF (E : List Ak) : List (PV × LV) := E.map H3
def Av (s : List UInt8) : List Ak → Option (List UInt8 × Int)
 | [] => none
 | (j, v) :: r => if s == j then some v else Av s r
def Ad (s : List UInt8) (E : List Ak) : List UInt8 × Int := (Av s E).getD ([], 0)
def Bj (s : List UInt8) (E : List Ak) : Bool := (Av s E).isSome
def Ba (s M : List UInt8) (u : Int) : List Ak → List Ak
 | [] => [(s, M, u)]
 | (j, v) :: r => if s == j then (s, M, u) :: r else (j, v) :: Ba s M u r
def kvT (s : List UInt8) (x : LV) (u : Int) : List Ak → List (PV × LV)
 | [] => [(.str s, .agg [x, .p (.int .i64 u)])]
 | (j, v) :: r => if s == j then (.str s, .agg [x, .p (.int .i64 u)]) :: kvF r else H3 (j, v) :: kvT s x u r
theorem Kj (s : List UInt8) : ∀ E, D9 (.str s) (kvF E) = some ((Av s E).map fun p => .agg [.p (.sl (bs p.1)), .p (.int .i64 p.2)])
 | [] => rfl
 | (j, v) :: r => by
  have ih := Kj s r
  simp only [kvF] at ih
  simp only [kvF, List.map_cons, H3, D9, Gm, Av]
  cases h : s == j
  ·simpa using ih
  ·simp
theorem Ru (s : List UInt8) (x : LV) (u : Int) : ∀ E, Jv (.str s) (.agg [x, .p (.int .i64 u)]) (kvF E) = some (kvT s x u E)
 | [] => rfl
 | (j, v) :: r => by
  have ih := Ru s x u r
  simp only [kvF] at ih
  simp only [kvF, List.map_cons, H3, Jv, Gm, kvT]
  cases h : s == j
  ·simp [ih, H3]
  ·simp [kvF]
theorem kvT_p (s M : List UInt8) (u : Int) : ∀ E, kvT s (.p (.sl (bs M))) u E = kvF (Ba s M u E)
 | [] => rfl
 | (j, v) :: r => by
  have ih := kvT_p s M u r
  simp only [kvT, Ba]
  split
  ·rfl
  ·rw [ih]; rfl
def B2 (s : List UInt8) : List Ak → List Ak
 | [] => []
 | (j, v) :: r => if s == j then r else (j, v) :: B2 s r
theorem Rv (s : List UInt8) : ∀ E, N6 (.str s) (kvF E) = some (kvF (B2 s E))
 | [] => rfl
 | (j, v) :: r => by
  have ih := Rv s r
  simp only [kvF] at ih
  simp only [kvF, List.map_cons, H3, N6, Gm, B2]
  cases h : s == j
  ·simp [ih, H3]
  ·simp
theorem Co (E : List Ak) : (LObj.map (kvF E)).refs = [] := by
 simp only [LObj.refs, kvF, List.flatMap_map]
 exact List.flatMap_eq_nil_iff.2 fun x _ => rfl
theorem Aa (r : Nat → Nat) (E : List Ak) : LObj.ren r (.map (kvF E)) = .map (kvF E) := by
 simp only [LObj.ren, kvF, List.map_map]; rfl
theorem Do (s : List UInt8) (x : LV) (u : Int) : ∀ E, (LObj.map (kvT s x u E)).refs = x.refs
 | [] => by simp [LObj.refs, kvT, LV.refs, LV.refsL]
 | (j, v) :: r => by
  have ih := Do s x u r
  have h0 := Co r
  simp only [LObj.refs] at ih h0
  simp only [kvT]
  split
  ·simp only [LObj.refs, List.flatMap_cons, h0]; simp [LV.refs, LV.refsL]
  ·simp only [LObj.refs, List.flatMap_cons, ih]; simp [H3, LV.refs, LV.refsL]
theorem D2 (g : Nat → Nat) (s : List UInt8) (x : LV) (u : Int) : ∀ E, LObj.ren g (.map (kvT s x u E)) = .map (kvT s (x.ren g) u E)
 | [] => rfl
 | (j, v) :: r => by
  have ih := D2 g s x u r
  have h0 := Aa g r
  simp only [LObj.ren, LObj.map.injEq] at ih h0
  simp only [kvT]
  split
  ·simp only [LObj.ren, List.map_cons, h0]; rfl
  ·simp only [LObj.ren, List.map_cons, ih]; rfl
theorem Uu (E : List Ak) : (kvF E).map (fun x => (x.1, x.2.weak)) = kvF E := by
 simp only [kvF, List.map_map]; rfl
theorem Uv (s : List UInt8) {x : LV} {M : List UInt8} (hx : x.weak1 = .p (.sl (bs M))) (u : Int) : ∀ E, (kvT s x u E).map (fun x => (x.1, x.2.weak)) = kvF (Ba s M u E)
 | [] => by
  have hw : (LV.agg [x, .p (.int .i64 u)]).weak = .agg [.p (.sl (bs M)), .p (.int .i64 u)] := by simp only [LV.weak, List.map_cons, List.map_nil, hx]; rfl
  simp only [kvT, List.map_cons, List.map_nil, hw]; rfl
 | (j, v) :: r => by
  have ih := Uv s hx u r
  simp only [kvT, Ba]
  split
  ·have hw : (LV.agg [x, .p (.int .i64 u)]).weak = .agg [.p (.sl (bs M)), .p (.int .i64 u)] := by simp only [LV.weak, List.map_cons, List.map_nil, hx]; rfl
   simp only [List.map_cons, Uu, hw]; rfl
  ·simp only [List.map_cons, ih]; rfl
theorem Nf (s : List UInt8) {x : LV} {M : List UInt8} (hx : x.weak1 = .p (.sl (bs M))) (u : Int) (E : List Ak) : frzMap (.map (kvT s x u E)) = .map (kvF (Ba s M u E)) := by
 simp only [frzMap, Uv s hx]
theorem Tr (E : List Ak) : frzMap (.map (kvF E)) = .map (kvF E) := by simp only [frzMap, Uu]
theorem Ev {m : Nat} {s : List UInt8} {E : List Ak} {st : List LObj} {z : LV} (hs : st[m]? = some (.map (kvF E))) (h : Bj s E = true) :
  Ag A5 [] st (.lookup .str z true (.const (.mp m)) (.const (.p (.str s)))) = some (.tup [.agg [.p (.sl (bs (Ad s E).1)), .p (.int .i64 (Ad s E).2)], .p (.bool true)], st) := by
 obtain ⟨v, hv⟩ := Option.isSome_iff_exists.1 h
 simp only [Ag, LX.ev, LV.toPV, KK.fits, if_true, Qr, hs, Kj, hv, Option.map_some, Ad, Option.getD_some]
theorem Im {m : Nat} {s : List UInt8} {E : List Ak} {st : List LObj} {z : LV} (hs : st[m]? = some (.map (kvF E))) (h : Bj s E = false) :
  Ag A5 [] st (.lookup .str z true (.const (.mp m)) (.const (.p (.str s)))) = some (.tup [z, .p (.bool false)], st) := by
 have hv : Av s E = none := by simpa [Bj] using h
 simp only [Ag, LX.ev, LV.toPV, KK.fits, if_true, Qr, hs, Kj, hv, Option.map_none]
theorem C3 {m : Nat} {s : List UInt8} {x : LV} {u : Int} {E : List Ak} {st : List LObj} (hs : st[m]? = some (.map (kvF E))) :
  Ag A5 [] st (.mapUpdate .str (.const (.mp m)) (.const (.p (.str s))) (.const (.agg [x, .p (.int .i64 u)]))) = some (.tup [], st.set m (.map (kvT s x u E))) := by
 simp only [Ag, LX.ev, LV.toPV, KK.fits, if_true, hs, Ru]
theorem Kk {m : Nat} {s M : List UInt8} {u : Int} {E : List Ak} {st : List LObj} (hs : st[m]? = some (.map (kvF E))) :
  Ag A5 [] st (.mapUpdate .str (.const (.mp m)) (.const (.p (.str s))) (.const (.agg [.p (.sl (bs M)), .p (.int .i64 u)]))) = some (.tup [], st.set m (.map (kvF (Ba s M u E)))) := by
 rw [C3 hs, kvT_p]
theorem O2 {m : Nat} {s : List UInt8} {E : List Ak} {st : List LObj} (hs : st[m]? = some (.map (kvF E))) :
  Ag A5 [] st (.delete .str (.const (.mp m)) (.const (.p (.str s)))) = some (.tup [], st.set m (.map (kvF (B2 s E)))) := by
 simp only [Ag, LX.ev, LV.toPV, KK.fits, if_true, hs, Rv]
theorem Ts {m : Nat} {E : List Ak} {st : List LObj} (hs : st[m]? = some (.map (kvF E))) : Ag A5 [] st (.mlen (.const (.mp m))) = some (.p (.int .i64 ((List.length (α := Ak) E : Nat) : Int)), st) := by
 simp only [Ag, LX.ev, hs, kvF, List.length_map]
theorem Tt {M : List UInt8} {n m : Int} {st : List LObj} (hn : n = (M.length : Int)) (hm : m = (M.length : Int)) :
  Ag A5 [] st (.slice 1 (.const (.p (.sl (bs M)))) none (some (.const (.p (.int .i64 n)))) (some (.const (.p (.int .i64 m))))) = some (.tight (bs M), st) := by
 subst hn; subst hm
 have h1 : ((bs M).all fun e => e.length == 1) = true := M9 M 1 rfl
 have h2 : ((M.length : Nat) : Int) ≤ ((bs M).length : Int) := by rw [A6]; omega
 have b1 : bnd (bs M).length (some (LV.p (.int .i64 (M.length : Int)))) (bs M).length = some M.length := by
  have := Rl (k := .i64) (d := (bs M).length) (show (0 : Int) ≤ (M.length : Int) by omega) h2
  simpa using this
 have b2 : bnd M.length (some (LV.p (.int .i64 (M.length : Int)))) (bs M).length = some M.length := by
  have := Rl (y := M.length) (k := .i64) (d := (bs M).length) (show (0 : Int) ≤ (M.length : Int) by omega) (by omega)
  simpa using this
 simp only [Ag, LX.ev, Option.map_some, Option.map_none, Eg, LV.asSl, h1, if_true, E9, Option.isSome_some, Option.isNone_some, Bool.false_eq_true, and_false, if_false, b1, b2]
 simp [bnd, ← A6 M]
theorem La {str : Bool} {M X : List UInt8} {st : List LObj} {x : LV} {es : List (List PV)} (hx : C6 str st x = some es) (he : es = bs X) (hX : X = []) :
  Ag A5 [] st (.append str 1 1 (.const (.tight (bs M))) (.const x)) = some (.tight (bs M), st) := by
 subst hX
 subst he
 have h1 : Ex 1 (bs M) = true := M8 M
 cases M with
 | nil => simp [Ag, LX.ev, Di, hx, bs, Ex]
 | cons a M => simp [Ag, LX.ev, Di, hx, bs, Ex]
def Ao (n : Int) : Int := if n > 0 then n - 1 else n
def dS (E : List Ak) (sp tn : Int) (off : Bool) : List LObj := [.row [[.mp 1, .p (.int .i64 sp), .p (.int .i64 tn), .p (.bool off)]], .map (kvF E)]
abbrev Bt := List UInt8 × Int
def A3 (L : List Bt) : List (List PV) := L.map fun x => [.str x.1, .int .i64 x.2]
theorem Ht (L : List Bt) : (A3 L).length = L.length := by simp [A3]
theorem O3 {L : List Bt} {i : Nat} {o : Bt} (h : L[i]? = some o) : (A3 L)[i]? = some [.str o.1, .int .i64 o.2] := by simp [A3, h]
def Bx (L : List Bt) : Bool := L.all fun x => nmB x.1
theorem Rw {a b c v : PV} {E : List Ak} : gc 2 [.p v] [.row [[.mp 1, .p a, .p b, .p c]], .map (kvF E)] = some ([.p v], [.row [[.mp 1, .p a, .p b, .p c]], .map (kvF E)]) :=
 Am (sh := [.row [[.mp 1, .p a, .p b, .p c]], .spare 1 0]) (ids := [0, 1]) (by simp only [List.map_cons, List.map_nil, Co] <;> rfl) (by kernel_rfl) (by show [_, LObj.ren _ (.map (kvF E))] = _; simp only [Aa]; rfl)
theorem Xw {a b c v : PV} {E : List Ak} {n m : Nat} : gc 2 [.p v] [.row [[.mp 1, .p a, .p b, .p c]], .map (kvF E), .spare n m] = some ([.p v], [.row [[.mp 1, .p a, .p b, .p c]], .map (kvF E)]) :=
 Am (sh := [.row [[.mp 1, .p a, .p b, .p c]], .spare 1 0, .spare n m]) (ids := [0, 1]) (by simp only [List.map_cons, List.map_nil, Co] <;> rfl) (by kernel_rfl) (by show [_, LObj.ren _ (.map (kvF E))] = _; simp only [Aa]; rfl)
theorem eN : ([] : List LObj).map LObj.refs = ([] : List LObj).map LObj.refs := rfl
theorem eC {a : LObj} {s t : List LObj} (h : s.map LObj.refs = t.map LObj.refs) : (a :: s).map LObj.refs = (a :: t).map LObj.refs := by rw [List.map_cons, List.map_cons, h]
theorem eM {E : List Ak} {s t : List LObj} (h : s.map LObj.refs = t.map LObj.refs) : (.map (kvF E) :: s).map LObj.refs = (.spare 1 0 :: t).map LObj.refs := by rw [List.map_cons, List.map_cons, h, Co]; rfl
theorem lC {a b : LObj} {s t : List LObj} (h : a = b) (k : s = t) : a :: s = b :: t := by rw [h, k]
end Go.LS
set_option linter.unusedVariables false
set_option linter.unusedSimpArgs false
namespace Go.LS
inductive Cty where
 | bool
 | int (k : IntKind)
 | str
 | sl (ts : List Cty) (bytes : Nat)
 | pr (Q : List PV → Prop) (bytes : Nat)
mutual
def Vs : Cty → PV → Prop
 | .bool, p => ∃ b, p = .bool b
 | .int k, p => ∃ n, p = .int k n ∧ k.min ≤ n ∧ n ≤ k.max
 | .str, p => ∃ s, p = .str s ∧ s.length ≤ reachBytes
 | .sl ts bytes, p => ∃ es : List (List PV), p = .sl es ∧ es.length * bytes ≤ reachBytes ∧ es.length ≤ maxLen ∧ ∀ e ∈ es, Be ts e
 | .pr Q bytes, p => ∃ es : List (List PV), p = .sl es ∧ es.length * bytes ≤ reachBytes ∧ es.length ≤ maxLen ∧ ∀ e ∈ es, Q e
def Be : List Cty → List PV → Prop
 | [], ps => ps = []
 | t :: ts, ps => ∃ p r, ps = p :: r ∧ Vs t p ∧ Be ts r
end
def Lq (P : Program) (rc : TypeId → Option (List Cty)) : Nat → List Field → Option (List Cty)
 | _, [] => some []
 | off, f :: r => match rc f.type with
  | some ts => if f.offset = off ∧ ts.length = P.cellsOf f.type then
    match Lq P rc (off + ts.length) r with
    | some l => some (ts ++ l)
    | none => none
   else none
  | none => none
def tyT (P : Program) (cut : List TypeId) (Q : TypeId → List PV → Prop) : Nat → TypeId → Option (List Cty)
 | 0, _ => none
 | n + 1, t => match P.underlying t with
  | some .bool => some [.bool]
  | some (.int k) => some [.int k]
  | some .string => some [.str]
  | some (.slice e) => if e ∈ cut then some [.pr (Q e) (P.bytesOf e)] else match tyT P cut Q n e with
   | some ts => if ts.length = P.cellsOf e ∧ 0 < ts.length then some [.sl ts (P.bytesOf e)] else none
   | none => none
  | some (.struct fs) => match Lq P (tyT P cut Q n) 0 fs.toList with
   | some ts => if ts.length = P.cellsOf t then some ts else none
   | none => none
  | some (.array m e) => match tyT P cut Q n e with
   | some ts => if m * ts.length = P.cellsOf t ∧ ts.length = P.cellsOf e then some (List.replicate m ts).flatten else none
   | none => none
  | _ => none
def RecOk (P : Program) (cut : List TypeId) (N : Nat) : Nat → TypeId → List PV → Prop
 | 0, _, _ => False
 | k + 1, t, ps => ∃ ts, tyT P cut (RecOk P cut N k) N t = some ts ∧ Be ts ps
def Xx (Q R : TypeId → List PV → Prop) : Prop := ∀ e x, Q e x → R e x
def Cle (ts us : List Cty) : Prop := us.length = ts.length ∧ ∀ ps, Be ts ps → Be us ps
theorem Cle.append {a b c d : List Cty} (h : Cle a b) (k : Cle c d) : Cle (a ++ c) (b ++ d) := by
 refine ⟨by simp [h.1, k.1], ?_⟩
 have : ∀ (a b : List Cty), b.length = a.length → (∀ ps, Be a ps → Be b ps) → ∀ ps, Be (a ++ c) ps → Be (b ++ d) ps := by
  intro a b hl hab ps hp
  obtain ⟨p1, p2, rfl, h1, h2⟩ := split a c ps hp
  exact join b d p1 p2 (hab _ h1) (k.2 _ h2)
 exact this a b h.1 h.2
where
 split : ∀ (a c : List Cty) (ps : List PV), Be (a ++ c) ps → ∃ p1 p2, ps = p1 ++ p2 ∧ Be a p1 ∧ Be c p2
  | [], c, ps, h => ⟨[], ps, rfl, by simp [Be], h⟩
  | t :: a, c, ps, h => by
   simp only [List.cons_append, Be] at h
   obtain ⟨p, r, rfl, h1, h2⟩ := h
   obtain ⟨p1, p2, rfl, h3, h4⟩ := split a c r h2
   exact ⟨p :: p1, p2, rfl, by simp only [Be]; exact ⟨p, p1, rfl, h1, h3⟩, h4⟩
 join : ∀ (a c : List Cty) (p1 p2 : List PV), Be a p1 → Be c p2 → Be (a ++ c) (p1 ++ p2)
  | [], c, p1, p2, h, k => by simp only [Be] at h; subst h; exact k
  | t :: a, c, p1, p2, h, k => by
   simp only [Be] at h
   obtain ⟨p, r, rfl, h1, h2⟩ := h
   simp only [List.cons_append, Be]
   exact ⟨p, r ++ p2, rfl, h1, join a c r p2 h2 k⟩
theorem O4 {P : Program} {rc rd : TypeId → Option (List Cty)} (h : ∀ t ts, rc t = some ts → ∃ us, rd t = some us ∧ Cle ts us) : ∀ {fs : List Field} {off : Nat} {ts : List Cty}, Lq P rc off fs = some ts → ∃ us, Lq P rd off fs = some us ∧ Cle ts us
 | [], off, ts, he => by simp only [Lq] at he; cases he; exact ⟨[], rfl, rfl, fun _ h => h⟩
 | f :: fs, off, ts, he => by
  simp only [Lq] at he
  split at he
  ·rename_i t1 h1
   split at he
   ·rename_i hc
    split at he
    ·rename_i l h2
     cases he
     obtain ⟨u1, g1, g2⟩ := h _ _ h1
     obtain ⟨u2, k1, k2⟩ := O4 h h2
     refine ⟨u1 ++ u2, ?_, g2.append k2⟩
     simp only [Lq, g1]
     rw [if_pos ⟨hc.1, by rw [g2.1]; exact hc.2⟩, g2.1, k1]
    ·cases he
   ·cases he
  ·cases he
theorem Cle.rep {a b : List Cty} (h : Cle a b) : ∀ m, Cle (List.replicate m a).flatten (List.replicate m b).flatten
 | 0 => ⟨rfl, fun _ h => h⟩
 | m + 1 => by rw [List.replicate_succ, List.replicate_succ, List.flatten_cons, List.flatten_cons]; exact h.append (h.rep m)
theorem Fo {P : Program} {cut : List TypeId} {Q R : TypeId → List PV → Prop} (hQ : Xx Q R) : ∀ {n : Nat} {t : TypeId} {ts : List Cty}, tyT P cut Q n t = some ts → ∃ us, tyT P cut R n t = some us ∧ Cle ts us
 | 0, t, ts, h => by simp [tyT] at h
 | n + 1, t, ts, h => by
  simp only [tyT] at h ⊢
  split at h
  ·cases h; exact ⟨_, rfl, rfl, fun _ h => h⟩
  ·cases h; exact ⟨_, rfl, rfl, fun _ h => h⟩
  ·cases h; exact ⟨_, rfl, rfl, fun _ h => h⟩
  ·rename_i e hu
   split at h
   ·rename_i hc
    cases h
    rw [if_pos hc]
    refine ⟨_, rfl, rfl, fun ps hp => ?_⟩
    simp only [Be, Vs] at hp ⊢
    obtain ⟨p, r, rfl, ⟨es, rfl, a1, a2, a3⟩, h2⟩ := hp
    exact ⟨_, _, rfl, ⟨es, rfl, a1, a2, fun x hx => hQ _ _ (a3 x hx)⟩, h2⟩
   ·rename_i hc
    rw [if_neg hc]
    split at h
    ·rename_i us hus
     split at h
     ·rename_i hl
      cases h
      obtain ⟨vs, g1, g2⟩ := Fo hQ hus
      simp only [g1]
      rw [if_pos ⟨by rw [g2.1]; exact hl.1, by rw [g2.1]; exact hl.2⟩]
      refine ⟨_, rfl, rfl, fun ps hp => ?_⟩
      simp only [Be, Vs] at hp ⊢
      obtain ⟨p, r, rfl, ⟨es, rfl, a1, a2, a3⟩, h2⟩ := hp
      exact ⟨_, _, rfl, ⟨es, rfl, a1, a2, fun x hx => g2.2 _ (a3 x hx)⟩, h2⟩
     ·cases h
    ·cases h
  ·split at h
   ·rename_i us hus
    split at h
    ·rename_i hl
     cases h
     obtain ⟨vs, g1, g2⟩ := O4 (fun t ts h => Fo hQ h) hus
     simp only [g1]
     rw [if_pos (by rw [g2.1]; exact hl)]
     exact ⟨_, rfl, g2⟩
    ·cases h
   ·cases h
  ·rename_i m e hu
   split at h
   ·rename_i us hus
    split at h
    ·rename_i hl
     cases h
     obtain ⟨vs, g1, g2⟩ := Fo hQ hus
     simp only [g1]
     rw [if_pos ⟨by rw [g2.1]; exact hl.1, by rw [g2.1]; exact hl.2⟩]
     exact ⟨_, rfl, g2.rep m⟩
    ·cases h
   ·cases h
  ·cases h
theorem RecOk.mono {P : Program} {cut : List TypeId} {N : Nat} : ∀ k, Xx (RecOk P cut N k) (RecOk P cut N (k + 1))
 | 0, e, x, h => h.elim
 | k + 1, e, x, h => by
  obtain ⟨ts, h1, h2⟩ := h
  obtain ⟨us, g1, g2⟩ := Fo (RecOk.mono k) h1
  exact ⟨us, g1, g2.2 _ h2⟩
abbrev Dp (w : World) : Nat → Nat → Option Value := fun b o => w.cell? ⟨b, o, none⟩
def CellsOk (F : Nat → Nat → Option Value) (ts : List Cty) (cs : List Value) (ps : List PV) : Prop :=
 cs.length = ps.length ∧ Be ts ps ∧ ∀ (i : Nat) p, ps[i]? = some p → ∃ u, cs[i]? = some u ∧ VP F p u
theorem Jq : ∀ {ts us : List Cty} {ps qs : List PV}, Be ts ps → Be us qs → Be (ts ++ us) (ps ++ qs)
 | [], us, ps, qs, h, k => by simp only [Be] at h; subst h; simpa using k
 | t :: ts, us, ps, qs, h, k => by
  simp only [Be] at h
  obtain ⟨p, r, rfl, h1, h2⟩ := h
  simp only [List.cons_append, Be]
  exact ⟨p, r ++ qs, rfl, h1, Jq h2 k⟩
theorem F9 : ∀ {ts : List Cty} {ps : List PV}, Be ts ps → ps.length = ts.length
 | [], ps, h => by simp only [Be] at h; subst h; rfl
 | t :: ts, ps, h => by
  simp only [Be] at h
  obtain ⟨p, r, rfl, h1, h2⟩ := h
  simp [F9 h2]
theorem CellsOk.append {F : Nat → Nat → Option Value} {ts us : List Cty} {cs ds : List Value} {ps qs : List PV} (h : CellsOk F ts cs ps) (k : CellsOk F us ds qs) : CellsOk F (ts ++ us) (cs ++ ds) (ps ++ qs) := by
 refine ⟨by simp [h.1, k.1], Jq h.2.1 k.2.1, fun i p hi => ?_⟩
 by_cases hlt : i < ps.length
 ·rw [List.getElem?_append_left hlt] at hi
  rw [List.getElem?_append_left (by rw [h.1]; exact hlt)]
  exact h.2.2 i p hi
 ·rw [List.getElem?_append_right (by omega)] at hi
  rw [List.getElem?_append_right (by rw [h.1]; omega), h.1]
  exact k.2.2 _ p hi
theorem CellsOk.one {F : Nat → Nat → Option Value} {t : Cty} {p : PV} {u : Value} (h : Vs t p) (k : VP F p u) : CellsOk F [t] [u] [p] := by
 refine ⟨rfl, ?_, fun i q hi => ?_⟩
 ·simp only [Be]; exact ⟨p, [], rfl, h, rfl⟩
 ·cases i with
  | zero => simp at hi; subst hi; exact ⟨u, rfl, k⟩
  | succ i => simp at hi
section
variable {H : Type} {enc : TypeId × Value → H} {P : Program} {W : World}
theorem Hi {e : TypeId} : ∀ {ds : List (DataW H)} {d : DataW H} {x : Nat}, d ∈ ds → x ∈ d.weights P e → x ∈ DataW.weightsAll P e ds
 | [], d, x, hd, _ => by cases hd
 | y :: r, d, x, hd, hx => by
  simp only [DataW.weightsAll, List.mem_append]
  rcases List.mem_cons.1 hd with rfl | hd
  ·exact .inl hx
  ·exact .inr (Hi hd hx)
theorem O5 {n : Nat} {rc : TypeId → Option (List Cty)}
  (ih : ∀ t cs d ps ts, DataW.trod enc P W 0 (fun _ => true) true n t cs = some (d, ps) → rc t = some ts → (∀ x ∈ d.weights P t, x ≤ reachBytes) → ∃ pv, CellsOk (Dp W) ts cs pv) :
  ∀ (fs : List Field) (off : Nat) (cs : List Value) (xs : List (DataW H × List MemPlace)) (ts : List Cty), Lq P rc off fs = some ts → xs.length = fs.length →
   (∀ (i : Nat) f, fs[i]? = some f → DataW.trod enc P W 0 (fun _ => true) true n f.type ((cs.drop (f.offset - off)).take (P.cellsOf f.type)) = xs[i]?) →
   (∀ x ∈ DataW.weightsEach P (fs.map (·.type)) (xs.map (·.1)), x ≤ reachBytes) → cs.length = ts.length → ∃ pv, CellsOk (Dp W) ts cs pv
 | [], off, cs, xs, ts, ht, _, _, _, hl => by
  simp only [Lq] at ht; cases ht
  simp at hl
  subst hl
  exact ⟨[], rfl, rfl, by simp⟩
 | f :: fs, off, cs, xs, ts, ht, hx, hg, hw, hl => by
  simp only [Lq] at ht
  split at ht
  ·rename_i ts1 h1
   split at ht
   ·rename_i hc
    split at ht
    ·rename_i l h2
     cases ht
     cases xs with
     | nil => simp at hx
     | cons x xs =>
      have g0 := hg 0 f rfl
      rw [hc.1, Nat.sub_self] at g0
      simp only [List.drop_zero, List.getElem?_cons_zero] at g0
      simp only [List.map_cons, DataW.weightsEach, List.mem_append] at hw
      obtain ⟨pv1, c1⟩ := ih _ _ x.1 x.2 _ g0 h1 (fun y hy => hw y (.inl hy))
      rw [List.length_append] at hl
      have hd : (cs.drop ts1.length).length = l.length := by simp [hl]
      obtain ⟨pv2, c2⟩ := O5 ih fs (off + ts1.length) (cs.drop ts1.length) xs l h2 (by simpa using hx) (fun i f' hf => by
       have := hg (i + 1) f' (by simpa using hf)
       simp only [List.getElem?_cons_succ] at this
       rw [← this, List.drop_drop]
       have hle : off + ts1.length ≤ f'.offset := tyFs_le h2 i f' hf
       congr 3
       omega) (fun y hy => hw y (.inr hy)) hd
      have e : cs = (cs.take (P.cellsOf f.type)) ++ cs.drop ts1.length := by rw [← hc.2, List.take_append_drop]
      rw [e]
      exact ⟨pv1 ++ pv2, c1.append c2⟩
    ·cases ht
   ·cases ht
  ·cases ht
where
 tyFs_le {rc : TypeId → Option (List Cty)} : ∀ {fs : List Field} {off : Nat} {ts : List Cty}, Lq P rc off fs = some ts → ∀ (i : Nat) f, fs[i]? = some f → off ≤ f.offset
 | [], _, _, _, i, f, hf => by simp at hf
 | g :: fs, off, ts, h, i, f, hf => by
  simp only [Lq] at h
  split at h
  ·rename_i ts1 h1
   split at h
   ·rename_i hc
    split at h
    ·rename_i l h2
     cases i with
     | zero => simp at hf; subst hf; omega
     | succ i => have := tyFs_le h2 i f (by simpa using hf); omega
    ·cases h
   ·cases h
  ·cases h
theorem Xy {n : Nat} {e : TypeId} {ts : List Cty}
  (ih : ∀ cs d ps, DataW.trod enc P W 0 (fun _ => true) true n e cs = some (d, ps) → (∀ x ∈ d.weights P e, x ≤ reachBytes) → ∃ pv, CellsOk (Dp W) ts cs pv) (hc : ts.length = P.cellsOf e) :
  ∀ (m : Nat) (cs : List Value) (xs : List (DataW H × List MemPlace)), xs.length = m → cs.length = m * ts.length →
   (∀ i, i < m → DataW.trod enc P W 0 (fun _ => true) true n e ((cs.drop (i * P.cellsOf e)).take (P.cellsOf e)) = xs[i]?) →
   (∀ x ∈ DataW.weightsAll P e (xs.map (·.1)), x ≤ reachBytes) → ∃ pv, CellsOk (Dp W) (List.replicate m ts).flatten cs pv
 | 0, cs, xs, hx, hl, _, _ => by
  simp at hl
  subst hl
  exact ⟨[], rfl, rfl, by simp⟩
 | m + 1, cs, xs, hx, hl, hg, hw => by
  cases xs with
  | nil => simp at hx
  | cons x xs =>
   have g0 := hg 0 (by omega)
   simp only [Nat.zero_mul, List.drop_zero, List.getElem?_cons_zero] at g0
   simp only [List.map_cons, DataW.weightsAll, List.mem_append] at hw
   obtain ⟨pv1, c1⟩ := ih _ x.1 x.2 g0 (fun y hy => hw y (.inl hy))
   obtain ⟨pv2, c2⟩ := Xy ih hc m (cs.drop ts.length) xs (by simpa using hx) (by rw [List.length_drop, hl, Nat.add_mul]; omega) (fun i hi => by
    have := hg (i + 1) (by omega)
    simp only [List.getElem?_cons_succ] at this
    rw [← this, List.drop_drop]
    congr 3
    rw [Nat.add_mul, hc]; omega) (fun y hy => hw y (.inr hy))
   have e1 : cs = (cs.take (P.cellsOf e)) ++ cs.drop ts.length := by rw [← hc, List.take_append_drop]
   rw [e1, List.replicate_succ, List.flatten_cons]
   exact ⟨pv1 ++ pv2, c1.append c2⟩
theorem Lb {α : Type} {R : Nat → α → Prop} : ∀ (n : Nat), (∀ i, i < n → ∃ a, R i a) → ∃ l : List α, l.length = n ∧ ∀ i a, l[i]? = some a → R i a
 | 0, _ => ⟨[], rfl, by simp⟩
 | n + 1, h => by
  obtain ⟨l, h1, h2⟩ := Lb n (fun i hi => h i (by omega))
  obtain ⟨a, ha⟩ := h n (by omega)
  refine ⟨l ++ [a], by simp [h1], fun i b hb => ?_⟩
  rcases As hb with ⟨_, hb⟩ | ⟨rfl, rfl⟩
  ·exact h2 i b hb
  ·rw [h1]; exact ha
theorem trod_pv {cut : List TypeId} {N : Nat} (hcut : ∀ e ∈ cut, ∀ Q, ∃ ts, tyT P cut Q N e = some ts ∧ ts.length = P.cellsOf e ∧ 0 < ts.length) : ∀ (fuel : Nat) (Q : TypeId → List PV → Prop) (hQ : Xx (RecOk P cut N fuel) Q) (n : Nat) (t : TypeId) (cs : List Value) (d : DataW H) (ps : List MemPlace) (ts : List Cty),
  DataW.trod enc P W 0 (fun _ => true) true fuel t cs = some (d, ps) → tyT P cut Q n t = some ts → (∀ x ∈ d.weights P t, x ≤ reachBytes) → ∃ pv, CellsOk (Dp W) ts cs pv := by
 intro fuel
 induction fuel with
 | zero => intro Q hQ n t cs d ps ts h; simp [DataW.trod] at h
 | succ fuel ih0 =>
  intro Q hQ n t cs d ps ts h ht hw
  have ih := ih0 Q (fun e x hx => hQ e x (RecOk.mono fuel e x hx))
  cases n with
  | zero => simp [tyT] at ht
  | succ n =>
   simp only [tyT] at ht
   split at ht
   ·rename_i hu
    cases ht
    obtain ⟨b, rfl, e⟩ := DataW.trod_bool hu h
    exact ⟨[.bool b], .one ⟨b, rfl⟩ (.bool b)⟩
   ·rename_i k hu
    cases ht
    obtain ⟨m, rfl, e, hwf⟩ := DataW.trod_int hu h
    refine ⟨[.int k m], .one ⟨m, rfl, ?_⟩ (.int k m)⟩
    simpa [Lit.wf] using hwf
   ·rename_i hu
    cases ht
    obtain ⟨s, rfl, e, hwf⟩ := DataW.trod_string hu h
    cases e
    have := hw s.data.toList.length (by simp [DataW.weights])
    exact ⟨[.str s.data.toList], .one ⟨_, rfl, this⟩ (by have := VP.str (F := Dp W) s.data.toList; simpa using this)⟩
   ·rename_i e hu
    have slc : ∀ (us : List Cty) (c : Cty), us.length = P.cellsOf e → 0 < us.length → (∀ es : List (List PV), es.length * P.bytesOf e ≤ reachBytes → es.length ≤ maxLen → (∀ x ∈ es, Be us x) → Vs c (.sl es)) →
      (∀ cs d ps, DataW.trod enc P W 0 (fun _ => true) true fuel e cs = some (d, ps) → (∀ x ∈ d.weights P e, x ≤ reachBytes) → ∃ pv, CellsOk (Dp W) us cs pv) → ∃ pv, CellsOk (Dp W) [c] cs pv := by
     intro us c hc1 hc2 hokc ihe
     rcases DataW.trod_slice hu h with ⟨rfl, _⟩ | ⟨a, len, cap, elems, rest, m, hm, rfl, hx, _, hlc, hcm, hel, hg, hsp, _⟩
     ·exact ⟨[.sl []], .one (hokc [] (by simp) (by simp) (by simp)) .nils⟩
     ·obtain rfl : m = fuel := by omega
      cases hx
      have hwl : (elems.length + rest.length) * P.bytesOf e ≤ reachBytes := hw _ (by simp [DataW.weights, hu])
      have each : ∀ i, i < len → ∃ pv : List PV, Be us pv ∧ pv.length = us.length ∧ ∀ (j : Nat) p, pv[j]? = some p → ∃ u, W.cell? ((a.add (i * P.cellsOf e)).add j) = some u ∧ VP (Dp W) p u := by
       intro i hi
       have := hg i hi
       have hlt : i < elems.length := by omega
       rw [List.getElem?_eq_getElem hlt, Option.bind_eq_some_iff] at this
       obtain ⟨cs', h1, h2⟩ := this
       obtain ⟨pv, c1, c2, c3⟩ := ihe cs' elems[i].1 elems[i].2 (by rw [h2]) (fun x hx => hw x (by
        simp only [DataW.weights, hu, List.mem_cons, List.mem_append]
        exact .inr (.inl (Hi (List.mem_map.2 ⟨elems[i], List.getElem_mem _, rfl⟩) hx))))
       refine ⟨pv, c2, F9 c2, fun j p hj => ?_⟩
       obtain ⟨u, hu', hv⟩ := c3 j p hj
       refine ⟨u, ?_, hv⟩
       unfold World.cells? at h1
       split at h1
       ·have := mapM_some_get h1 j j (by
         have := (List.getElem?_eq_some_iff.1 hu').1
         have := mapM_some_length h1
         simp at this
         rw [List.getElem?_range (by omega)])
        rw [this]; exact hu'
       ·cases h1
      obtain ⟨es, e1, e2⟩ := Lb len each
      have hall : ∀ x ∈ es, Be us x ∧ x.length = us.length := by
       intro x hx
       obtain ⟨i, hi⟩ := List.getElem?_of_mem hx
       exact ⟨(e2 i x hi).1, (e2 i x hi).2.1⟩
      have hok : Vs c (.sl es) := hokc es (Nat.le_trans (Nat.mul_le_mul_right _ (by omega)) hwl) (by omega) (fun x hx => (hall x hx).1)
      by_cases h0 : len = 0
      ·subst h0
       have : es = [] := List.eq_nil_of_length_eq_zero e1
       subst this
       exact ⟨[.sl []], .one hok (.sl0 a cap hcm)⟩
      ·have hspot : a.spot = none := by
        obtain ⟨x, hx⟩ : ∃ x, es[0]? = some x := ⟨es[0]'(by omega), by simp [show 0 < es.length by omega]⟩
        obtain ⟨_, hxl, hcell⟩ := e2 0 x hx
        obtain ⟨p, hp⟩ : ∃ p, x[0]? = some p := ⟨x[0]'(by omega), by simp [show 0 < x.length by omega]⟩
        obtain ⟨u, hu', _⟩ := hcell 0 p hp
        simp only [Nat.zero_mul, Addr.add, if_true] at hu'
        unfold World.cell? at hu'
        split at hu'
        ·split at hu'
         ·cases hu'
         ·rename_i hs; simpa using hs
        ·cases hu'
       obtain ⟨b, off, sp⟩ := a
       simp only at hspot
       subst hspot
       refine ⟨[.sl es], .one hok ?_⟩
       have key : ∀ i j p, at2 es i j = some p → ∃ u, Dp W b (off + i * us.length + j) = some u ∧ VP (Dp W) p u := by
        intro i j p hp
        unfold at2 at hp
        rw [Option.bind_eq_some_iff] at hp
        obtain ⟨x, hx, hj⟩ := hp
        obtain ⟨_, _, hcell⟩ := e2 i x hx
        obtain ⟨u, hu', hv⟩ := hcell j p hj
        refine ⟨u, ?_, hv⟩
        rw [Addr.add_lit, Addr.add_lit, ← hc1] at hu'
        exact hu'
       have := VP.mk (F := Dp W) (es := es) (size := us.length) (b := b) (off := off) (cap := cap) (by omega) hcm (fun x hx => (hall x hx).2) key
       rw [e1] at this
       exact this
    split at ht
    ·rename_i hcu
     cases ht
     obtain ⟨us, k1, k2, k3⟩ := hcut e hcu (RecOk P cut N fuel)
     refine slc us _ k2 k3 (fun es h1 h2 h3 => ⟨es, rfl, h1, h2, fun x hx => hQ e x ⟨us, k1, h3 x hx⟩⟩) (fun cs d ps h1 h2 => ih0 (RecOk P cut N fuel) (fun _ _ h => h) N e cs d ps us h1 k1 h2)
    ·split at ht
     ·rename_i us hus
      split at ht
      ·rename_i hc
       cases ht
       exact slc us _ hc.1 hc.2 (fun es h1 h2 h3 => ⟨es, rfl, h1, h2, h3⟩) (fun cs d ps h1 h2 => ih n e cs d ps us h1 hus h2)
      ·cases ht
     ·cases ht
   ·rename_i fs hu
    split at ht
    ·rename_i us hus
     split at ht
     ·rename_i hc
      rw [← Option.some.inj ht]
      obtain ⟨xs, m, hm, hx, hl, hxl, hg⟩ := DataW.trod_struct hu h
      obtain rfl : m = fuel := by omega
      cases hx
      refine O5 (fun t cs d ps ts h1 h2 h3 => ih n t cs d ps ts h1 h2 h3) fs.toList 0 cs xs us hus (by simp [hxl]) (fun i f hf => ?_) (fun x hx => hw x (by simp [DataW.weights, hu, hx])) (by rw [hl, hc])
      simpa using hg i f (by simpa using hf)
     ·cases ht
    ·cases ht
   ·rename_i m e hu
    split at ht
    ·rename_i us hus
     split at ht
     ·rename_i hc
      cases ht
      obtain ⟨xs, q, hq, hx, hl, hxl, hg⟩ := DataW.trod_array hu h
      obtain rfl : q = fuel := by omega
      cases hx
      exact Xy (fun cs d ps h1 h3 => ih n e cs d ps us h1 hus h3) hc.2 m cs xs hxl (by rw [hl, hc.1]) hg (fun x hx => hw x (by simp [DataW.weights, hu, hx]))
     ·cases ht
    ·cases ht
   ·cases ht
def Rx (agg : Bool) (ps : List PV) : LV := if agg then .agg (ps.map .p) else match ps with | [p] => .p p | _ => .und
def Jr (P : Program) (cut : List TypeId) (Q : TypeId → List PV → Prop) (n : Nat) : List TypeId → Option (List (Bool × List Cty))
 | [] => some []
 | t :: r => match P.underlying t, tyT P cut Q n t, Jr P cut Q n r with
  | some d, some ts, some l => some ((Hw d, ts) :: l)
  | _, _, _ => none
def OkArgs : List (Bool × List Cty) → List LV → Prop
 | [], l => l = []
 | (agg, ts) :: r, l => ∃ ps m, l = Rx agg ps :: m ∧ Be ts ps ∧ OkArgs r m
theorem tyT_one {cut : List TypeId} {Q : TypeId → List PV → Prop} {n : Nat} {t : TypeId} {d : TypeDesc} {ts : List Cty} (hd : P.underlying t = some d) (ha : Hw d = false) (h : tyT P cut Q n t = some ts) : ts.length = 1 := by
 cases n with
 | zero => simp [tyT] at h
 | succ n =>
  simp only [tyT, hd] at h
  cases d <;> simp only [Hw, Bool.true_eq_false] at ha <;> first | (cases h; rfl) | skip
  all_goals
   simp only at h
   first
    | (split at h
       ·cases h; rfl
       ·split at h
        ·split at h
         ·cases h; rfl
         ·cases h
        ·cases h)
    | (split at h
       ·split at h
        ·cases h; rfl
        ·cases h
       ·cases h)
    | cases h
theorem O6 {cut : List TypeId} {Q R : TypeId → List PV → Prop} (hQ : Xx Q R) {n : Nat} : ∀ {ts : List TypeId} {a b : List (Bool × List Cty)}, Jr P cut Q n ts = some a → Jr P cut R n ts = some b → ∀ vs, OkArgs a vs → OkArgs b vs
 | [], a, b, h, k, vs, hv => by simp only [Jr] at h k; cases h; cases k; exact hv
 | t :: r, a, b, h, k, vs, hv => by
  simp only [Jr] at h k
  split at h
  ·rename_i d ts l h1 h2 h3
   cases h
   obtain ⟨us, g1, g2⟩ := Fo hQ h2
   split at k
   ·rename_i d' ts' l' e1 e2 e3
    rw [h1] at e1; rw [g1] at e2
    cases e1; cases e2; cases k
    obtain ⟨ps, m, rfl, a1, a2⟩ := hv
    exact ⟨ps, m, rfl, g2.2 _ a1, O6 hQ h3 e3 _ a2⟩
   ·cases k
  ·cases h
theorem RecOk.le {cut : List TypeId} {N : Nat} : ∀ {k m : Nat}, k ≤ m → Xx (RecOk P cut N k) (RecOk P cut N m)
 | k, m, h => by
  induction h with
  | refl => exact fun _ _ h => h
  | step _ ih => exact fun e x hx => RecOk.mono _ e x (ih e x hx)
theorem Uw {cut : List TypeId} {N : Nat} (hcut : ∀ e ∈ cut, ∀ Q, ∃ ts, tyT P cut Q N e = some ts ∧ ts.length = P.cellsOf e ∧ 0 < ts.length) {n : Nat} {G : Gh} (hG : G.F = Dp W) : ∀ {ts : List TypeId} {vs : List Value} {ds gs : List (DataW H)} {us : List TypeId} {ps : List MemPlace} {tys : Nat → List (Bool × List Cty)}, DataW.TrodAll enc P W 0 (fun _ => true) true ts vs ds ps → (∀ k, Jr P cut (RecOk P cut N k) n ts = some (tys k)) →
  (∀ (j : Nat) t v, ts[j]? = some t → vs[j]? = some v → Value.okWide P W .any 0 t v ∨ ∃ base, Value.okWide P W .any base t v) → (∀ x ∈ DataW.weightsEach P (ts ++ us) (ds ++ gs), x ≤ reachBytes) →
  ∃ k, ∃ args, OkArgs (tys k) args ∧ args.length = vs.length ∧ ∀ (i : Nat) x u, args[i]? = some x → vs[i]? = some u → VL G x u
 | [], vs, ds, gs, us, ps, tys, h, ht, _, _ => by
  have := ht 0
  simp only [Jr, Option.some.injEq] at this
  obtain ⟨rfl, _, _⟩ := ChangeShapes.trodAll_nil h
  exact ⟨0, [], by rw [← this]; rfl, rfl, by simp⟩
 | t :: ts, vs, ds, gs, us, ps, tys, h, ht, hok, hw => by
  have hk : ∀ k, ∃ dd tt ll, P.underlying t = some dd ∧ tyT P cut (RecOk P cut N k) n t = some tt ∧ Jr P cut (RecOk P cut N k) n ts = some ll ∧ tys k = (Hw dd, tt) :: ll := by
   intro k
   have := ht k
   simp only [Jr] at this
   split at this
   ·rename_i dd tt ll h1 h2 h3
    exact ⟨dd, tt, ll, h1, h2, h3, (Option.some.inj this).symm⟩
   ·cases this
  have hl' : ∀ k, Jr P cut (RecOk P cut N k) n ts = some ((Jr P cut (RecOk P cut N k) n ts).getD []) := by
   intro k
   obtain ⟨dd, tt, ll, _, _, h3, _⟩ := hk k
   rw [h3]; rfl
  ·obtain ⟨v, vs', d, ds', p, q, rfl, rfl, rfl, ⟨fuel, h1⟩, h2⟩ := ChangeShapes.trodAll_cons h
   simp only [List.cons_append, DataW.weightsEach, List.mem_append] at hw
   obtain ⟨dd, tt, ll0, hd, htt, _, _⟩ := hk fuel
   obtain ⟨pv, c1, c2, c3⟩ := trod_pv hcut fuel _ (fun _ _ h => h) n t _ d p tt h1 htt (fun x hx => hw x (.inl hx))
   obtain ⟨k', args, a1, a2, a3⟩ := Uw hcut (n := n) hG h2 (tys := fun k => (Jr P cut (RecOk P cut N k) n ts).getD []) hl' (fun j t v hj hv => hok (j + 1) t v (by simpa using hj) (by simpa using hv)) (fun x hx => hw x (.inr hx))
   have hv : VL G (Rx (Hw dd) pv) v := by
    have hlen := F9 c2
    obtain ⟨base, hk⟩ : ∃ base, Value.okWide P W .any base t v := by
     rcases hok 0 t v rfl rfl with h | h
     ·exact ⟨0, h⟩
     ·exact h
    unfold Rx
    split
    ·rename_i ha
     have : ∃ arr, v = .agg arr := by
      unfold Value.okWide at hk
      rw [hd] at hk
      cases dd <;> simp [Hw] at ha
      all_goals exact ⟨_, hk.choose_spec.1⟩
     obtain ⟨arr, rfl⟩ := this
     simp only [Value.cells] at c1 c3
     refine .agg arr (by simpa using c1) (fun i u hu => ?_) (fun i x hx => ?_)
     ·have hlt : i < pv.length := by rw [← c1]; simpa using (Array.getElem?_eq_some_iff.1 hu).1
      obtain ⟨u', hu', hvp⟩ := c3 i pv[i] (by simp [hlt])
      rw [Array.getElem?_toList, hu] at hu'
      cases hu'
      exact hvp.one
     ·rw [List.getElem?_map] at hx
      cases hq : pv[i]? with
      | none => simp [hq] at hx
      | some y =>
       simp [hq] at hx; subst hx
       obtain ⟨u', hu', hvp⟩ := c3 i y hq
       rw [Array.getElem?_toList] at hu'
       rw [Array.getD_eq_getD_getElem?, hu']
       rw [← hG] at hvp
       exact .p hvp
    ·rename_i ha
     have h1 := tyT_one hd (by simpa using ha) htt
     have hna : ∀ arr, v ≠ .agg arr := by
      rintro arr rfl
      unfold Value.okWide at hk
      rw [hd] at hk
      cases dd <;> simp [Hw] at ha <;> simp [Cell.okWide, Cell.ok, hd] at hk
     obtain ⟨y, rfl⟩ := List.length_eq_one_iff.1 (hlen.trans h1)
     ·obtain ⟨u', hu', hvp⟩ := c3 0 y rfl
      have : v.cells = #[v] := by cases v <;> first | rfl | exact absurd rfl (hna _)
      rw [this] at hu'
      simp at hu'
      subst hu'
      rw [← hG] at hvp
      exact .p hvp
   obtain ⟨dd2, tt2, ll2, q1, q2, q3, q4⟩ := hk (max fuel k')
   have hdd : dd2 = dd := by rw [hd] at q1; exact (Option.some.inj q1).symm
   subst hdd
   obtain ⟨us2, g1, g2⟩ := Fo (RecOk.le (P := P) (cut := cut) (N := N) (Nat.le_max_left fuel k')) htt
   rw [q2] at g1
   cases g1
   have a1' := O6 (RecOk.le (P := P) (cut := cut) (N := N) (Nat.le_max_right fuel k')) (hl' k') q3 _ a1
   refine ⟨max fuel k', Rx (Hw dd2) pv :: args, by rw [q4]; exact ⟨pv, args, rfl, g2.2 _ c2, a1'⟩, by simp [a2], fun i x u hx hu => ?_⟩
   cases i with
   | zero => simp at hx hu; subst hx; subst hu; exact hv
   | succ i => exact a3 i x u (by simpa using hx) (by simpa using hu)
end
end Go.LS
namespace Go.LS
def gh0 (w : World) : Gh := ⟨Dp w, fun _ => none, fun _ _ => none⟩
theorem wr0 (w : World) : WR (gh0 w) [] w where
 fr _ _ _ h := h
 dom _ _ := ⟨rfl, fun _ => rfl⟩
 row o es h := by simp at h
 map o es h := by simp at h
 iter o s p h := by simp at h
 spare o n hw h := by simp at h
 uniq o o' b h := by simp [Owns] at h
 ownF o b h := by simp [Owns] at h
 kind o x h := by simp at h
theorem Ext0.below {G G' : Gh} {st' : List LObj} {w w' : World} (h : Ext0 G [] w G' st' w') : RowKit.Below w.heap.size w w' :=
 ⟨h.os, h.tape, h.output, h.hsz, fun k hk => h.unch k hk (fun o ho => by simp [Owns] at ho)⟩
theorem H4 {H : Type} {enc : TypeId × Value → H} {P : Program} (hl : laidOutB P = true) {W W' : World} (hb : RowKit.Below W.heap.size W W') :
  ∀ {ts : List TypeId} {vs : List Value} {ds : List (DataW H)} {ps : List MemPlace}, (∀ t ∈ ts, P.readableRec t = true ∧ t < P.types.size) → DataW.TrodAll enc P W 0 (fun _ => true) true ts vs ds ps →
   DataW.TrodAll enc P W' 0 (fun b => decide (b < W.heap.size)) true ts vs ds ps
 | [], vs, ds, ps, _, h => by
  obtain ⟨rfl, rfl, rfl⟩ := ChangeShapes.trodAll_nil h
  rfl
 | t :: ts, vs, ds, ps, ht, h => by
  obtain ⟨v, vs', d, ds', p, q, rfl, rfl, rfl, h1, h2⟩ := ChangeShapes.trodAll_cons h
  refine ⟨p, q, ?_, H4 hl hb (fun t hm => ht t (by simp [hm])) h2, rfl⟩
  exact RowKit.Below.trod hl (ht t (by simp)).1 (ht t (by simp)).2 h1 hb (fun x hx => by
   obtain ⟨m, hm⟩ := h1
   exact DataW.trod_lt m _ _ _ hm x hx)
theorem Lc {H : Type} {enc : TypeId × Value → H} {P : Program} {W : World} : ∀ {ts : List TypeId} {vs : List Value} {ds : List (DataW H)} {ps : List MemPlace}, DataW.TrodAll enc P W 0 (fun _ => true) true ts vs ds ps → ds.length = vs.length
 | [], vs, ds, ps, h => by
  obtain ⟨rfl, rfl, _⟩ := ChangeShapes.trodAll_nil h
  rfl
 | t :: ts, vs, ds, ps, h => by
  obtain ⟨v, vs', d, ds', p, q, rfl, rfl, rfl, _, h2⟩ := ChangeShapes.trodAll_cons h
  simp [Lc h2]
theorem Qc {H : Type} {enc : TypeId × Value → H} {P : Program} {lp : A1} (hp : PR P lp) (hl : laidOutB P = true) {f : FuncId} {fn : Func} {s : ChangeSpec} {tb : TypeId} {cut : List TypeId} {N n : Nat} {tys : Nat → List (Bool × List Cty)}
  (hcut : ∀ e ∈ cut, ∀ Q, ∃ ts, tyT P cut Q N e = some ts ∧ ts.length = P.cellsOf e ∧ 0 < ts.length)
  (hps : fn.params.toList.all (fun t => P.readableRec t && decide (t < P.types.size)) = true) (hres : fn.resultTypes = #[tb]) (htb : P.underlying tb = some .bool)
  (ht : ∀ k, Jr P cut (RecOk P cut N k) n fn.params.toList = some (tys k)) (hv : s.vars = []) (hsz : ∀ k, ∀ vs : List LV, OkArgs (tys k) vs → vs.length = fn.params.size)
  (hs : ∀ ds : List (DataW H), ds.length = fn.params.size → s.fn H ds = { results := [.lit (.bool true)], args := ds, vars := [] })
  (W : World) (base : Nat) (args : Array Value) (ds gs : List (DataW H)) (before : List MemPlace)
  (hrun : ∀ j vs, OkArgs (tys j) vs → ∃ k st', B7 lp k f vs [] = some (.p (.bool true), st'))
  (hval : ∀ (j : Nat) t v, fn.params[j]? = some t → args[j]? = some v → Value.okWide P W .any base t v)
  (hW : DataW.Whole enc P fn.params.toList s.vars false W args.toList ds gs before)
  (hw : (DataW.weightsEach P (fn.params.toList ++ s.plain.varTypes P) (ds ++ gs)).all (· ≤ reachBytes) = true) :
  Calls P f args W fun e W' => ∃ v, e = .returned v ∧ s.post enc P fn false true false false W args v W' := by
 have hW' := hW
 obtain ⟨p, q, hA, hV, rfl, hfz, _⟩ := hW
 rw [hv] at hV
 obtain ⟨rfl, rfl⟩ := ChangeShapes.trodVars_none hV
 have hwx : ∀ x ∈ DataW.weightsEach P (fn.params.toList ++ s.plain.varTypes P) (ds ++ []), x ≤ reachBytes := fun x hx => by simpa using List.all_eq_true.1 hw x hx
 obtain ⟨j0, vs, a1, a2, a3⟩ := Uw (G := gh0 W) hcut rfl hA ht (fun j t v hj hv' => .inr ⟨base, hval j t v (by simpa using hj) (by simpa using hv')⟩) hwx
 obtain ⟨k, st', hr⟩ := hrun j0 vs a1
 obtain ⟨_, hcall⟩ := Fw hp k f vs [] _ _ hr
 refine (hcall (gh0 W) W args (wr0 W) ⟨by simpa using a2.symm, fun i x hx => ?_⟩).mono ?_
 ·have hlt : i < args.size := by have := (List.getElem?_eq_some_iff.1 hx).1; rw [a2] at this; simpa using this
  have := a3 i x args[i] hx (by simp [hlt])
  rw [Array.getD_eq_getD_getElem?, Array.getElem?_eq_getElem hlt]
  exact this
 ·rintro e W' ⟨u, G', rfl, _, hu, hx⟩
  have hub := hu.bool_inv
  subst hub
  have bel := hx.below
  have hdl : ds.length = fn.params.size := by
   rw [← hsz j0 vs a1, a2]
   exact Lc hA
  refine ⟨_, rfl, ds, [], _, [], p, [], hW', ?_, ?_, ?_, bel.frame _, fun h => by cases h⟩
  ·rw [List.append_nil, hs ds hdl, hres]
   exact ChangeShapes.trodAll_mk1 ⟨1, by simp [DataW.trod, htb, Value.cells]⟩
  ·rw [List.append_nil, hs ds hdl]
   refine H4 hl bel (fun t hm => ?_) hA
   have := List.all_eq_true.1 hps t hm
   simpa using this
  ·rw [List.append_nil, hs ds hdl, hv]
   rfl
end Go.LS
namespace Go.LS
theorem OkArgs.length : ∀ {tys : List (Bool × List Cty)} {vs : List LV}, OkArgs tys vs → vs.length = tys.length
 | [], vs, h => by cases h; rfl
 | (a, t) :: r, vs, h => by
  obtain ⟨ps, m, rfl, _, h2⟩ := h
  simp [h2.length]
end Go.LS
namespace Go.LS
theorem Ux : ∀ {es : List (List PV)}, (∀ e ∈ es, Be [.int .u8] e) → ∃ b : List UInt8, es = bs b
 | [], _ => ⟨[], rfl⟩
 | e :: r, h => by
  obtain ⟨b, rfl⟩ := Ux (es := r) (fun x hx => h x (List.mem_cons_of_mem _ hx))
  obtain ⟨_, _, rfl, ⟨n, rfl, h0, h1⟩, rfl⟩ := h e (List.mem_cons_self ..)
  replace h0 : 0 ≤ n := h0
  replace h1 : n ≤ 255 := h1
  refine ⟨UInt8.ofNat n.toNat :: b, ?_⟩
  have := Um h0 h1
  simp only [bs, List.map_cons, List.map_nil, List.cons.injEq] at this
  simp [bs]
  omega
theorem Uy {agg : Bool} {ts : List Cty} {r : List (Bool × List Cty)} {l : List LV} (h : OkArgs ((agg, ts) :: r) l) : ∃ ps m, l = Rx agg ps :: m ∧ Be ts ps ∧ OkArgs r m := h
theorem okEnd {l : List LV} (h : OkArgs [] l) : l = [] := h
theorem okI {k : IntKind} {ts : List Cty} {ps : List PV} (h : Be (.int k :: ts) ps) : ∃ n r, ps = .int k n :: r ∧ (k.min ≤ n ∧ n ≤ k.max) ∧ Be ts r := by
 obtain ⟨_, r, rfl, ⟨n, rfl, h1⟩, h2⟩ := h
 exact ⟨n, r, rfl, h1, h2⟩
theorem okS {ts : List Cty} {ps : List PV} (h : Be (.str :: ts) ps) : ∃ n r, ps = .str n :: r ∧ n.length ≤ reachBytes ∧ Be ts r := by
 obtain ⟨_, r, rfl, ⟨n, rfl, h1⟩, h2⟩ := h
 exact ⟨n, r, rfl, h1, h2⟩
theorem okSl {u : List Cty} {b : Nat} {ts : List Cty} {ps : List PV} (h : Be (.sl u b :: ts) ps) : ∃ n r, ps = .sl n :: r ∧ (n.length * b ≤ reachBytes ∧ n.length ≤ maxLen ∧ ∀ e ∈ n, Be u e) ∧ Be ts r := by
 obtain ⟨_, r, rfl, ⟨n, rfl, h1⟩, h2⟩ := h
 exact ⟨n, r, rfl, h1, h2⟩
theorem O7 {ps : List PV} (h : Be [] ps) : ps = [] := h
end Go.LS
set_option linter.unusedVariables false
namespace Go.LS
theorem Ry {α : Type} {xs : List α} {i : Nat} {x : α} (h : xs[i]? = some x) : xs.drop i = x :: xs.drop (i + 1) := by
 obtain ⟨hi, rfl⟩ := List.getElem?_eq_some_iff.1 h
 exact List.drop_eq_getElem_cons hi
theorem nx {i : Nat} (h : i ≤ 1000000000000000) : IntKind.wrap .i64 ((i : Int) + 1) = ((i + 1 : Nat) : Int) := by
 rw [Aw (by omega) (by omega)]; rfl
end Go.LS
set_option linter.unusedVariables false
set_option linter.unusedSimpArgs false
namespace Go.LS
inductive Val where
 | mk (kind int : Int) (text : List UInt8) (items : List Val) (names : List (List UInt8))
 deriving Inhabited
def rowsN (ns : List (List UInt8)) : List (List PV) := ns.map fun x => [.str x]
mutual
def rowV : Val → List PV
 | .mk k n s is ns => [.int .i64 k, .int .i64 n, .str s, .sl (Xz is), .sl (rowsN ns)]
def Xz : List Val → List (List PV)
 | [] => []
 | v :: r => rowV v :: Xz r
end
def nameB (s : List UInt8) : Bool := !(s.contains 46) && decide (1 ≤ s.length) && decide (s.length ≤ 32) && !(s.headD 0 == 36)
def X0 : List (List UInt8) → Bool
 | [] => false
 | x :: r => r.contains x || X0 r
def shapeB (k n : Int) (s : List UInt8) (l : Nat) (ns : List (List UInt8)) : Bool :=
 if k == 1 then n == 0 && s == [] && decide (l = 0) && decide (ns.length = 0)
 else if k == 2 then (decide (0 ≤ n) && decide (n ≤ 1)) && s == [] && decide (l = 0) && decide (ns.length = 0)
 else if k == 3 then s == [] && decide (l = 0) && decide (ns.length = 0)
 else if k == 4 || k == 5 then n == 0 && decide (l = 0) && decide (ns.length = 0)
 else if k == 6 then n == 0 && s == [] && decide (ns.length = 0)
 else if k == 7 then n == 0 && s == [] && decide (ns.length = l) && !X0 ns
 else false
mutual
def mayV : Val → Bool
 | .mk k n s is ns => mayL is && ns.all nameB && shapeB k n s is.length ns
def mayL : List Val → Bool
 | [] => true
 | v :: r => mayV v && mayL r
end
mutual
def depthV : Val → Int
 | .mk _ _ _ is _ => X1 is + 1
def X1 : List Val → Int
 | [] => 0
 | v :: r => max (depthV v) (X1 r)
end
def zzN (x : Int) : Nat := if 0 ≤ x then (2 * x).toNat else (-(2 * x) - 1).toNat
def clenN (n : Nat) : Int := ((Af n).length : Int)
def tlenN (s : List UInt8) : Int := ((Af s.length).length : Int) + s.length
mutual
def sizeV : Val → Int
 | .mk k n s is ns => if k == 2 then 2 else if k == 3 then 1 + ((Af (zzN n)).length : Int) else if k == 4 || k == 5 then 1 + tlenN s
  else if k == 6 then 1 + clenN is.length + X2 is else if k == 7 then 1 + clenN is.length + X2 is + (ns.map tlenN).sum else 1
def X2 : List Val → Int
 | [] => 0
 | v :: r => sizeV v + X2 r
end
mutual
def nodesV : Int → Val → Int
 | d, .mk _ _ _ is ns => if d > 40 then 1048576 else X3 (IntKind.wrap .i64 (d + 1)) (IntKind.wrap .i64 (1 + (ns.length : Int))) is
def X3 : Int → Int → List Val → Int
 | _, m, [] => m
 | d, m, v :: r => if m < 65536 then X3 d (IntKind.wrap .i64 (m + nodesV d v)) r else m
end
mutual
def sameV : Val → Val → Bool
 | .mk k n s is ns, .mk k' n' s' is' ns' => (k == k') && (n == n') && (s == s') && sameL is is' && (ns == ns')
def sameL : List Val → List Val → Bool
 | [], [] => true
 | v :: r, v' :: r' => sameV v v' && sameL r r'
 | _, _ => false
end
def X4 (a b : Int) : Int := if a < b then -1 else if a > b then 1 else 0
def ordS (a b : List UInt8) : Int := if Op.bytesLess a b = true then -1 else if (!(Op.bytesLess a b || a == b)) = true then 1 else 0
mutual
def cmpV : Val → Val → Int
 | .mk k n s is ns, .mk k' n' s' is' ns' => if X4 k k' ≠ 0 then X4 k k' else if X4 n n' ≠ 0 then X4 n n' else if ordS s s' ≠ 0 then ordS s s' else
  match cmpL (k == 7) is is' ns ns' with
  | some c => c
  | none => X4 is.length is'.length
def cmpL : Bool → List Val → List Val → List (List UInt8) → List (List UInt8) → Option Int
 | d, v :: r, w :: q, ns, ms => if d = true ∧ ordS (ns.headD []) (ms.headD []) ≠ 0 then some (ordS (ns.headD []) (ms.headD [])) else
  if cmpV v w ≠ 0 then some (cmpV v w) else cmpL d r q ns.tail ms.tail
 | _, _, _, _, _ => none
end
mutual
def okV : Val → Prop
 | .mk k n s is ns => (-9223372036854775808 ≤ k ∧ k ≤ 9223372036854775807) ∧ (-9223372036854775808 ≤ n ∧ n ≤ 9223372036854775807) ∧ s.length ≤ 140737488351232 ∧ is.length * 80 ≤ 140737488355328 ∧ ns.length * 16 ≤ 140737488355328 ∧ (∀ x ∈ ns, x.length ≤ 140737488351232) ∧ okL is
def okL : List Val → Prop
 | [] => True
 | v :: r => okV v ∧ okL r
end
end Go.LS

/- Whole functions: made ready, run, sound. -/
import Derived.Test.YthiilhepneddpaaLsStep
import Derived.LoopN
set_option linter.unusedVariables false
set_option linter.unusedSimpArgs false
namespace Go.LS

/-! Making ready. -/
def compGuard (ops : Array Oper) (o : Oper) : Option (Option (Nat × Bool)) :=
  match o.guard with
  | none => some none
  | some (j, want) => match (ops[j]?).bind (·.dst) with
    | some d => some (some (d, want))
    | none => none

def compOper (P : Program) (r : Bool) (ops : Array Oper) (o : Oper) : Option LOper :=
  match compGuard ops o, compOp P r o.op with
  | some g, some op => some ⟨o.dst, op, g⟩
  | _, _ => none

def compOps (P : Program) (rs : Nat → Bool) (ops : Array Oper) : Nat → List Oper → Option (List LOper)
  | _, [] => some []
  | i, o :: r => match compOper P (rs i) ops o, compOps P rs ops (i + 1) r with
    | some x, some l => some (x :: l)
    | _, _ => none

/-- The temporaries stand for the machine's. -/
def TR (G : Gh) (t : List LV) (a : Act) : Prop := a.tmps.size = t.length ∧ ∀ (i : Nat) v, t[i]? = some v → VL G v (a.tmps.getD i undef)

theorem TR.mono {G G' : Gh} (hG : G.le G') {t : List LV} {a : Act} (h : TR G t a) : TR G' t a := ⟨h.1, fun i v hv => (h.2 i v hv).mono hG⟩

theorem TR.get {G : Gh} {t : List LV} {a : Act} (h : TR G t a) (i : Nat) : VL G (t.getD i .und) (a.tmps.getD i undef) := by
  cases hi : t[i]? with
  | none => simp [List.getD, hi]; exact .und _
  | some v => simp only [List.getD, hi, Option.getD_some]; exact h.2 i v hi

theorem TR.xs {G : Gh} {t : List LV} {a : Act} (h : TR G t a) (op : Op) : XsR G t a op := by
  intro x _ y hy
  cases x with
  | tmp i => simp only [compX] at hy; cases hy; exact h.get i
  | const v =>
    simp only [compX] at hy
    split at hy <;> cases hy
    exact constLV_sound G ‹_›
  | func f =>
    simp only [compX] at hy; cases hy
    exact .fn _ #[] #[] rfl rfl (by simp) (by simp)
  | global g => simp [compX] at hy

theorem TR.put {G : Gh} {t : List LV} {a : Act} (h : TR G t a) {v : LV} {u : Value} (hv : VL G v u) (dst : Option Nat) : TR G (putT t dst v) (a.put dst u) := by
  cases dst with
  | none => exact h
  | some d =>
    refine ⟨by simp [putT, Act.put, h.1], fun i x hx => ?_⟩
    simp only [putT] at hx
    rcases get_set_cases hx with ⟨e, hx⟩ | ⟨rfl, hlt, rfl⟩
    · have := h.2 i x hx
      simp only [Act.put]
      rw [Array.getD_eq_getD_getElem?, Array.getElem?_setIfInBounds_ne (Ne.symm e), ← Array.getD_eq_getD_getElem?]
      exact this
    · simp only [Act.put]
      rw [Array.getD_eq_getD_getElem?, Array.getElem?_setIfInBounds_self_of_lt (by rw [h.1]; exact hlt)]
      exact hv

/-- Whether an operation is carried out. -/
theorem gd_sound0 {G : Gh} {t : List LV} {a : Act} (hsz : a.tmps.size = t.length) {ops : Array Oper} {o : Oper} {g : Option (Nat × Bool)} (hg : compGuard ops o = some g)
    (hv : ∀ j want d, o.guard = some (j, want) → (ops[j]?).bind (·.dst) = some d → VL G (t.getD d .und) (a.tmps.getD d undef)) {b : Bool} (hb : gd t g = some b) :
    Region.wanted o (yielded ops a.tmps) = b := by
  unfold compGuard at hg
  unfold Region.wanted
  split at hg
  · rename_i e
    cases hg
    simp only [gd] at hb; cases hb
    rw [e]
  · rename_i j want e
    split at hg
    · rename_i d hd
      cases hg
      have hv := hv j want d e hd
      rw [e]
      simp only [gd] at hb
      split at hb
      · rename_i x hx
        cases hb
        rw [hx] at hv
        have hlt : d < t.length := by
          rcases Nat.lt_or_ge d t.length with h' | h'
          · exact h'
          · simp [List.getD, List.getElem?_eq_none h'] at hx
        have hlt' : d < a.tmps.size := by rw [hsz]; exact hlt
        have hu := hv.bool_inv
        have : a.tmps[d]? = some (.bool x) := by
          rw [Array.getD_eq_getD_getElem?, Array.getElem?_eq_getElem hlt'] at hu
          rw [Array.getElem?_eq_getElem hlt']
          simpa using hu
        simp [yielded, hd, this]
      · rename_i hx
        cases hb
        rw [hx] at hv
        obtain ⟨vs, hu, hs, _⟩ := hv.tup_inv
        have : yielded ops a.tmps j = none := by
          simp only [yielded, hd, Option.bind_some]
          cases hq : a.tmps[d]? with
          | none => rfl
          | some z =>
            have : z = .tuple vs := by rw [Array.getD_eq_getD_getElem?, hq] at hu; simpa using hu
            rw [this]
        simp [this]
      · cases hb
    · cases hg

theorem gd_sound {G : Gh} {t : List LV} {a : Act} (h : TR G t a) {ops : Array Oper} {o : Oper} {g : Option (Nat × Bool)} (hg : compGuard ops o = some g) {b : Bool} (hb : gd t g = some b) :
    Region.wanted o (yielded ops a.tmps) = b := gd_sound0 h.1 hg (fun _ _ d _ _ => h.get d) hb

/-- A region that does not draw. -/
theorem ops_sound {P : Program} {call : CallF} (hok : CallOK P call) {ops : Array Oper} {rs : Nat → Bool} {Q : Exit → Act → World → Prop} : ∀ (l : List Oper) (k : Nat) (los : List LOper) {t t' : List LV} {st st' : List LObj} {G : Gh} {w : World} {a : Act},
    (∀ i, l[i]? = ops[k + i]?) → compOps P rs ops k l = some los → runOps call los t st = some (t', st') → WR G st w → TR G t a →
    (∀ a' w' G', WR G' st' w' → TR G' t' a' → Ext0 G st w G' st' w' → a'.defers = a.defers → Q .normal a' w') → wpOps P ops Q (List.range' k l.length) a w
  | [], k, los, t, t', st, st', G, w, a, hl, hc, hr, h, ht, hq => by
    simp only [compOps] at hc; cases hc
    simp only [runOps, Option.some.injEq, Prod.mk.injEq] at hr
    obtain ⟨rfl, rfl⟩ := hr
    exact hq a w G h ht (Ext.refl ..).to0 rfl
  | o :: l, k, los, t, t', st, st', G, w, a, hl, hc, hr, h, ht, hq => by
    simp only [compOps] at hc
    split at hc
    · rename_i x lr hx hlr
      cases hc
      unfold compOper at hx
      split at hx
      · rename_i g op hg hop
        cases hx
        have hk : ops[k]? = some o := by have := hl 0; simpa using this.symm
        have hrest : ∀ i, l[i]? = ops[(k + 1) + i]? := fun i => by have := hl (i + 1); simpa [Nat.add_assoc, Nat.add_comm 1 i] using this
        simp only [List.length_cons, List.range'_succ, wpOps, hk]
        simp only [runOps] at hr
        split at hr
        · rename_i v st1 hstep
          unfold runOp at hstep
          simp only at hstep
          have go : ∀ (u : Value) (w1 : World) (G1 : Gh), WR G1 st1 w1 → VL G1 v u → Ext0 G st w G1 st1 w1 → wpOps P ops Q (List.range' (k + 1) l.length) (a.put o.dst u) w1 := by
            intro u w1 G1 h1 hv hx1
            refine ops_sound hok l (k + 1) lr hrest hlr hr h1 ((ht.mono hx1.le).put hv o.dst) ?_
            intro a' w' G' g1 g2 g3 g4
            exact hq a' w' G' g1 g2 (hx1.trans g3) (by rw [g4]; cases o.dst <;> rfl)
          split at hstep
          · rename_i hgd
            rw [if_pos (gd_sound ht hg hgd)]
            refine .inl (op_sound hok hop hstep h (ht.xs _) _ _ ?_)
            rintro u w1 ⟨G1, g1, g2, g3⟩
            exact go u w1 G1 g1 g2 g3.to0
          · rename_i hgd
            cases hstep
            have hw := gd_sound ht hg hgd
            rw [if_neg (by rw [hw]; simp)]
            exact go undef w G h (.unit G) (Ext.refl ..).to0
          · cases hstep
        · cases hr
      · cases hx
    · cases hc

/-! Which temporaries are read later. -/
def LX.tmps : LX → List Nat
  | .tmp t => [t]
  | .const _ => []
def LOp.reads : LOp → List Nat
  | .mv x | .retire x | .nileq _ _ x | .box x | .load _ _ x | .nilChk x | .un _ x | .cv _ x | .iface _ x | .fieldAddr _ x | .field _ _ _ x | .range x | .next x | .extract x _ | .len x | .slen x | .mlen x | .cap x => x.tmps
  | .pick a b c => a.tmps ++ b.tmps ++ c.tmps
  | .alloc _ | .mkmap | .const _ | .fail => []
  | .build _ ps => ps.flatMap fun p => p.2.2.tmps
  | .mkrow _ _ _ _ ps => ps.flatMap fun p => p.2.tmps
  | .store _ x y | .seq _ _ x y | .bin _ x y | .beq _ x y | .peq _ x y | .indexAddr _ x y | .arrAddr _ _ x y | .index x y | .arrIndex _ _ _ x y | .lookup _ _ _ x y | .delete _ x y | .append _ _ _ x y | .grow _ _ x y | .mx x y | .mn x y | .mkslice _ _ _ x y => x.tmps ++ y.tmps
  | .fn _ cs => cs.flatMap LX.tmps
  | .sslice x a b c | .slice _ x a b c => x.tmps ++ (a.map LX.tmps).getD [] ++ (b.map LX.tmps).getD [] ++ (c.map LX.tmps).getD []
  | .mapUpdate _ a b c => a.tmps ++ b.tmps ++ c.tmps
  | .call _ xs => xs.flatMap LX.tmps
  | .callv f xs => f.tmps ++ xs.flatMap LX.tmps

def liveOps : List LOper → List Nat → List Nat
  | [], out => out
  | o :: r, out =>
    let l := liveOps r out
    let l := match o.dst with | some d => l.filter (· != d) | none => l
    o.op.reads ++ (match o.guard with | some (j, _) => [j] | none => []) ++ l

def dedup (l : List Nat) : List Nat := l.foldl (fun acc x => if acc.contains x then acc else x :: acc) []

def live (ret : List Nat) : LCode → List Nat → List (Nat × List Nat) → List Nat
  | .skip, out, _ => out
  | .region ops, out, _ => dedup (liveOps ops out)
  | .drawn ops, out, _ => dedup (liveOps (ops.map (·.op)) out)
  | .seq a b, out, env => live ret a (live ret b out env) env
  | .cond x a b, out, env => dedup (x.tmps ++ live ret a out env ++ live ret b out env)
  | .both x a b c, out, env => dedup (x.tmps ++ live ret a (live ret c out env) env ++ live ret b (live ret c out env) env)
  | .block id _ c, out, env => live ret c out ((id, out) :: env)
  | .loop _ c, _, env => live ret c [] env
  | .exit id _, _, env => (env.lookup id).getD []
  | .ret _, _, _ => ret
  | .fail, _, _ => []

def annot (n : Nat) (ret : List Nat) : LCode → List Nat → List (Nat × List Nat) → LCode
  | .seq a b, out, env => .seq (annot n ret a (live ret b out env) env) (annot n ret b out env)
  | .cond x a b, out, env => .cond x (annot n ret a out env) (annot n ret b out env)
  | .both x a b c, out, env => .both x (annot n ret a (live ret c out env) env) (annot n ret b (live ret c out env) env) (annot n ret c out env)
  | .block id _ c, out, env => .block id ((List.range n).map fun i => out.contains i) (annot n ret c out ((id, out) :: env))
  | .loop _ c, _, env =>
    let l := live ret c [] env
    .loop ((List.range n).map fun i => l.contains i) (annot n ret c l env)
  | .exit id _, _, env => .exit id ((List.range n).map fun i => ((env.lookup id).getD []).contains i)
  | .ret _, _, _ => .ret ((List.range n).map fun i => ret.contains i)
  | c, _, _ => c

end Go.LS

/- A small semantics of loaded Go code that the kernel can run, part 6. -/
import Derived.Test.YthhcdjhdpbkgnaaLsG5
/- Values within values, as data: what stands for one in LS, and what it tells. -/
set_option linter.unusedVariables false
set_option linter.unusedSimpArgs false
namespace Go.LS

/-- A value: its kind, number, text, items, names. -/
inductive Val where
  | mk (kind int : Int) (text : List UInt8) (items : List Val) (names : List (List UInt8))
  deriving Inhabited

def rowsN (ns : List (List UInt8)) : List (List PV) := ns.map fun x => [.str x]
mutual
def rowV : Val → List PV
  | .mk k n s is ns => [.int .i64 k, .int .i64 n, .str s, .sl (rowsV is), .sl (rowsN ns)]
def rowsV : List Val → List (List PV)
  | [] => []
  | v :: r => rowV v :: rowsV r
end
abbrev encV : Val → LV
  | .mk k n s is ns => .agg [.p (.int .i64 k), .p (.int .i64 n), .p (.str s), .p (.sl (rowsV is)), .p (.sl (rowsN ns))]

theorem rowsV_map : ∀ (l : List Val), rowsV l = l.map rowV
  | [] => rfl
  | v :: r => by rw [rowsV, rowsV_map r]; rfl
theorem rowsV_len (l : List Val) : (rowsV l).length = l.length := by rw [rowsV_map, List.length_map]
theorem rowsN_len (l : List (List UInt8)) : (rowsN l).length = l.length := by simp [rowsN]
theorem rowV_len : ∀ (v : Val), (rowV v).length = 5
  | .mk .. => rfl
theorem rowsV_get {l : List Val} {i : Nat} {v : Val} (h : l[i]? = some v) : (rowsV l)[i]? = some (rowV v) := by rw [rowsV_map, List.getElem?_map, h]; rfl
theorem rowsN_get {l : List (List UInt8)} {i : Nat} (h : i < l.length) : (rowsN l)[i]? = some [.str (l.getD i [])] := by
  simp [rowsN, h]

/-- An induction over values. -/
theorem Val.ind {P : Val → Prop} (h : ∀ k n s is ns, (∀ v ∈ is, P v) → P (.mk k n s is ns)) : ∀ v, P v
  | .mk k n s is ns => h k n s is ns fun v hv => Val.ind h v

/-! What may be. -/
def nameB (s : List UInt8) : Bool := !(s.contains 46) && decide (1 ≤ s.length) && decide (s.length ≤ 32) && !(s.headD 0 == 36)
def twiceB : List (List UInt8) → Bool
  | [] => false
  | x :: r => r.contains x || twiceB r
def shapeB (k n : Int) (s : List UInt8) (l : Nat) (ns : List (List UInt8)) : Bool :=
  if k == 1 then n == 0 && s == [] && decide (l = 0) && decide (ns.length = 0)
  else if k == 2 then (decide (0 ≤ n) && decide (n ≤ 1)) && s == [] && decide (l = 0) && decide (ns.length = 0)
  else if k == 3 then s == [] && decide (l = 0) && decide (ns.length = 0)
  else if k == 4 || k == 5 then n == 0 && decide (l = 0) && decide (ns.length = 0)
  else if k == 6 then n == 0 && s == [] && decide (ns.length = 0)
  else if k == 7 then n == 0 && s == [] && decide (ns.length = l) && !twiceB ns
  else false
mutual
def mayV : Val → Bool
  | .mk k n s is ns => mayL is && ns.all nameB && shapeB k n s is.length ns
def mayL : List Val → Bool
  | [] => true
  | v :: r => mayV v && mayL r
end
mutual
def depthV : Val → Int
  | .mk _ _ _ is _ => depthL is + 1
def depthL : List Val → Int
  | [] => 0
  | v :: r => max (depthV v) (depthL r)
end
theorem mayL_all : ∀ (l : List Val), mayL l = l.all mayV
  | [] => rfl
  | v :: r => by rw [mayL, mayL_all r]; rfl

/-! What an argument is. -/
mutual
/-- Are all numbers, texts, lists of such a size as can be? -/
def okV : Val → Prop
  | .mk k n s is ns => (-9223372036854775808 ≤ k ∧ k ≤ 9223372036854775807) ∧ (-9223372036854775808 ≤ n ∧ n ≤ 9223372036854775807) ∧ s.length ≤ 140737488355328 ∧ is.length ≤ 140737488355328 ∧ ns.length ≤ 140737488355328 ∧ (∀ x ∈ ns, x.length ≤ 140737488355328) ∧ okL is
def okL : List Val → Prop
  | [] => True
  | v :: r => okV v ∧ okL r
end
theorem okL_all : ∀ {l : List Val}, okL l ↔ ∀ v ∈ l, okV v
  | [] => by simp [okL]
  | v :: r => by rw [okL, okL_all (l := r)]; simp
theorem okNames : ∀ {es : List (List PV)}, (∀ e ∈ es, okPVs [.str] e) → ∃ ns : List (List UInt8), es = rowsN ns ∧ ∀ x ∈ ns, x.length ≤ 140737488355328
  | [], _ => ⟨[], rfl, by simp⟩
  | e :: r, h => by
    obtain ⟨ns, rfl, hn⟩ := okNames (es := r) (fun x hx => h x (List.mem_cons_of_mem _ hx))
    obtain ⟨_, _, rfl, ⟨s, rfl, hs⟩, rfl⟩ := h e (List.mem_cons_self ..)
    refine ⟨s :: ns, rfl, fun x hx => ?_⟩
    rcases List.mem_cons.1 hx with rfl | hx
    · simp [reachBytes] at hs; omega
    · exact hn x hx
/-- A type whose elements, k levels deep, are values. -/
theorem okVal1 {Q : List PV → Prop} (hQ : ∀ {es : List (List PV)}, (∀ e ∈ es, Q e) → ∃ l : List Val, es = rowsV l ∧ okL l) {e : List PV}
    (h : okPVs [.int .i64, .int .i64, .str, .pr Q 80, .sl [.str] 16] e) : ∃ v : Val, e = rowV v ∧ okV v := by
  obtain ⟨_, _, rfl, ⟨a, rfl, a0, a1⟩, _, _, rfl, ⟨b, rfl, b0, b1⟩, _, _, rfl, ⟨s, rfl, hs⟩, _, _, rfl, ⟨es, rfl, e1, -, e3⟩, _, _, rfl, ⟨ns, rfl, n1, -, n3⟩, rfl⟩ := h
  obtain ⟨l, rfl, hl⟩ := hQ e3
  obtain ⟨m, rfl, hm⟩ := okNames n3
  refine ⟨.mk a b s l m, rfl, ⟨⟨a0, a1⟩, ⟨b0, b1⟩, ?_, ?_, ?_, hm, hl⟩⟩
  · simp [reachBytes] at hs; omega
  · rw [rowsV_len] at e1; simp [reachBytes] at e1; omega
  · rw [rowsN_len] at n1; simp [reachBytes] at n1; omega
theorem okVals {P : Program} {cut : List TypeId} {N : Nat} {T : TypeId} (hT : ∀ Q, tyT P cut Q N T = some [.int .i64, .int .i64, .str, .pr (Q T) 80, .sl [.str] 16]) :
    ∀ (k : Nat) {es : List (List PV)}, (∀ e ∈ es, RecOk P cut N k T e) → ∃ l : List Val, es = rowsV l ∧ okL l := by
  intro k
  induction k with
  | zero =>
    intro es h
    cases es with
    | nil => exact ⟨[], rfl, trivial⟩
    | cons e r => exact (h e (List.mem_cons_self ..)).elim
  | succ k ih =>
    intro es
    induction es with
    | nil => exact fun _ => ⟨[], rfl, trivial⟩
    | cons e r ihr =>
      intro h
      obtain ⟨l, rfl, hl⟩ := ihr fun x hx => h x (List.mem_cons_of_mem _ hx)
      obtain ⟨ts, h1, h2⟩ := h e (List.mem_cons_self ..)
      rw [hT] at h1
      cases h1
      obtain ⟨v, rfl, hv⟩ := okVal1 (fun h => ih h) h2
      exact ⟨v :: l, rfl, hv, hl⟩
/-- An argument. -/
theorem okValA {Q : List PV → Prop} (hQ : ∀ {es : List (List PV)}, (∀ e ∈ es, Q e) → ∃ l : List Val, es = rowsV l ∧ okL l) {e : List PV}
    (h : okPVs [.int .i64, .int .i64, .str, .pr Q 80, .sl [.str] 16] e) : ∃ v : Val, (.agg (e.map .p) : LV) = encV v ∧ okV v := by
  obtain ⟨v, rfl, hv⟩ := okVal1 hQ h
  exact ⟨v, by cases v; rfl, hv⟩
end Go.LS

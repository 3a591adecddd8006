/- The logical values of a small deterministic semantics ('LS') of loaded Go code, and what it means that a machine's value stands for one. -/
import Derived.Laws.Sem
import Derived.Laws.World
import Derived.RegionTactic
import Derived.Below
namespace Go.LS

/-- One cell's value that leads to no memory that may be written: slices by what they hold. -/
inductive PV where
  | bool (b : Bool)
  | int (k : IntKind) (n : Int)
  | str (s : List UInt8)
  | nilp
  | sl (es : List (List PV))
  | nilm
  | nilf
  | nili
  | ifc (t : TypeId) (v : PV)
  deriving Inhabited

/-- A value: a pure cell; a slice that owns the room behind its end (a tag of the store, the end's place); a slice whose capacity is its length;
a pointer to a cell of an object of the store; a pointer into memory that is never written; a slice over an object's elements; a map; a function; a struct or array; results. -/
inductive LV where
  | und
  | anyb
  | p (v : PV)
  | sl (es : List (List PV)) (t : Nat) (fin : Nat)
  | tight (es : List (List PV))
  | gr (t n : Nat)
  | ptr (o i off : Nat)
  | pin (cells : List PV) (off : Nat)
  | rs (o off len : Nat)
  | mp (o : Nat)
  | it (o : Nat)
  | fn (f : Fn) (first captured : List LV)
  | ifc (t : TypeId) (v : LV)
  | agg (cs : List LV)
  | tup (vs : List LV)
  deriving Inhabited

/-- An object of the store. -/
inductive LObj where
  | dead
  | row (es : List (List LV))
  | spare (size hw : Nat)
  | map (kv : List (PV × LV))
  | siter (s : List UInt8) (pos : Nat)
  deriving Inhabited

def at2 {α : Type} (es : List (List α)) (i j : Nat) : Option α := (es[i]?).bind (·[j]?)

inductive Loc where
  | row (blk size n : Nat)
  | map (blk : Nat)
  | iter (blk : Nat)
structure Sp where
  blk : Nat
  endo : Nat
  nsp : Nat
  size : Nat
/-- The ghost: cells that are never written again and what they hold; where objects lie; where a tag's array ended. -/
structure Gh where
  F : Nat → Nat → Option Value
  loc : Nat → Option Loc
  hist : Nat → Nat → Option Sp

structure Gh.le (G G' : Gh) : Prop where
  F : ∀ b o v, G.F b o = some v → G'.F b o = some v
  loc : ∀ o l, G.loc o = some l → G'.loc o = some l
  hist : ∀ t f s, G.hist t f = some s → G'.hist t f = some s

theorem Gh.le.refl (G : Gh) : G.le G := ⟨fun _ _ _ h => h, fun _ _ h => h, fun _ _ _ h => h⟩
theorem Gh.le.trans {A B C : Gh} (h : A.le B) (k : B.le C) : A.le C :=
  ⟨fun _ _ _ x => k.F _ _ _ (h.F _ _ _ x), fun _ _ x => k.loc _ _ (h.loc _ _ x), fun _ _ _ x => k.hist _ _ _ (h.hist _ _ _ x)⟩

/-- A machine's value stands for a pure one. -/
inductive VP (F : Nat → Nat → Option Value) : PV → Value → Prop where
  | bool (b : Bool) : VP F (.bool b) (.bool b)
  | int (k : IntKind) (n : Int) : VP F (.int k n) (.int k n)
  | str (s : List UInt8) : VP F (.str s) (.string ⟨s.toArray⟩)
  | nilp : VP F .nilp (.pointer none)
  | nils : VP F (.sl []) (.slice none 0 0)
  | sl0 (a : Addr) (cap : Nat) (hm : cap ≤ maxLen) : VP F (.sl []) (.slice (some a) 0 cap)
  | sl (es : List (List PV)) (size b o cap : Nat) (vals : Nat → Nat → Value)
      (hcap : es.length ≤ cap) (hm : cap ≤ maxLen) (hsz : ∀ e ∈ es, e.length = size)
      (hF : ∀ i j p, at2 es i j = some p → F b (o + i * size + j) = some (vals i j))
      (hv : ∀ i j p, at2 es i j = some p → VP F p (vals i j)) : VP F (.sl es) (.slice (some ⟨b, o, none⟩) es.length cap)
  | nilm : VP F .nilm (.map none)
  | nilf : VP F .nilf .nilFunc
  | nili : VP F .nili .nilIface
  | ifc (t : TypeId) (v : PV) (u : Value) (h : VP F v u) : VP F (.ifc t v) (.iface t u)

/-- A machine's value stands for a value. -/
inductive VL (G : Gh) : LV → Value → Prop where
  | und (u : Value) : VL G .und u
  | anyb (b : Bool) : VL G .anyb (.bool b)
  | p {v : PV} {u : Value} (h : VP G.F v u) : VL G (.p v) u
  | sl {es : List (List PV)} {t fin size b o cap : Nat} (h : VP G.F (.sl es) (.slice (some ⟨b, o, none⟩) es.length cap))
      (hcap : es.length ≤ cap) (hs : ∀ e ∈ es, e.length = size)
      (hh : G.hist t fin = some ⟨b, o + es.length * size, cap - es.length, size⟩) : VL G (.sl es t fin) (.slice (some ⟨b, o, none⟩) es.length cap)
  | tight {es : List (List PV)} {a : Option Addr} (h : VP G.F (.sl es) (.slice a es.length es.length)) : VL G (.tight es) (.slice a es.length es.length)
  | gr {t n size b o cap : Nat} (hn : n ≤ cap) (hm : cap ≤ maxLen) (hh : G.hist t 0 = some ⟨b, o, cap, size⟩) : VL G (.gr t n) (.slice (some ⟨b, o, none⟩) n cap)
  | ptr {o i off blk size n : Nat} (h : G.loc o = some (.row blk size n)) : VL G (.ptr o i off) (.pointer (some ⟨blk, i * size + off, none⟩))
  | pin {cells : List PV} {off b base : Nat} (vals : Nat → Value) (hF : ∀ j p, cells[j]? = some p → G.F b (base + j) = some (vals j))
      (hv : ∀ j p, cells[j]? = some p → VP G.F p (vals j)) : VL G (.pin cells off) (.pointer (some ⟨b, base + off, none⟩))
  | rs {o off len cap blk size n : Nat} (h : G.loc o = some (.row blk size n)) (hm : cap ≤ maxLen) (hlc : len ≤ cap) (hn : off + cap ≤ n) : VL G (.rs o off len) (.slice (some ⟨blk, off * size, none⟩) len cap)
  | mp {o blk : Nat} (h : G.loc o = some (.map blk)) : VL G (.mp o) (.map (some blk))
  | it {o blk : Nat} (h : G.loc o = some (.iter blk)) : VL G (.it o) (.pointer (some ⟨blk, 0, none⟩))
  | fn (f : Fn) {first captured : List LV} (vf vc : Array Value) (h1 : vf.size = first.length) (h2 : vc.size = captured.length)
      (hf : ∀ (i : Nat) x, first[i]? = some x → VL G x (vf.getD i undef)) (hc : ∀ (i : Nat) x, captured[i]? = some x → VL G x (vc.getD i undef)) :
      VL G (.fn f first captured) (.func f vf vc)
  | ifc (t : TypeId) {v : LV} {u : Value} (h : VL G v u) : VL G (.ifc t v) (.iface t u)
  | agg {cs : List LV} (vs : Array Value) (h1 : vs.size = cs.length) (h2 : ∀ (i : Nat) u, vs[i]? = some u → u.oneCell' = true)
      (h : ∀ (i : Nat) x, cs[i]? = some x → VL G x (vs.getD i undef)) : VL G (.agg cs) (.agg vs)
  | tup {cs : List LV} (vs : Array Value) (h1 : vs.size = cs.length) (h : ∀ (i : Nat) x, cs[i]? = some x → VL G x (vs.getD i undef)) : VL G (.tup cs) (.tuple vs)

theorem VP.one {F : Nat → Nat → Option Value} {p : PV} {u : Value} (h : VP F p u) : u.oneCell' = true := by cases h <;> rfl

theorem VP.mono {F F' : Nat → Nat → Option Value} (hF : ∀ b o v, F b o = some v → F' b o = some v) {p : PV} {u : Value} (h : VP F p u) : VP F' p u := by
  induction h with
  | sl es size b o cap vals hcap hm hsz h1 _ ih => exact .sl es size b o cap vals hcap hm hsz (fun i j p h => hF _ _ _ (h1 i j p h)) ih
  | ifc t v u _ ih => exact .ifc t v u ih
  | bool => exact .bool _
  | int => exact .int _ _
  | str => exact .str _
  | nilp => exact .nilp
  | nils => exact .nils
  | sl0 a cap hm => exact .sl0 a cap hm
  | nilm => exact .nilm
  | nilf => exact .nilf
  | nili => exact .nili

/-! Renaming what a value leads to. -/
mutual
def LV.ren (r : Nat → Nat) : LV → LV
  | .und => .und
  | .anyb => .anyb
  | .p v => .p v
  | .sl es t fin => .sl es (r t) fin
  | .tight es => .tight es
  | .gr t n => .gr (r t) n
  | .ptr o i off => .ptr (r o) i off
  | .pin cells off => .pin cells off
  | .rs o off len => .rs (r o) off len
  | .mp o => .mp (r o)
  | .it o => .it (r o)
  | .fn f first captured => .fn f (LV.renL r first) (LV.renL r captured)
  | .ifc t v => .ifc t (LV.ren r v)
  | .agg cs => .agg (LV.renL r cs)
  | .tup vs => .tup (LV.renL r vs)
def LV.renL (r : Nat → Nat) : List LV → List LV
  | [] => []
  | v :: l => LV.ren r v :: LV.renL r l
end

theorem LV.renL_eq (r : Nat → Nat) : ∀ l, LV.renL r l = l.map (LV.ren r)
  | [] => rfl
  | v :: l => by rw [LV.renL, LV.renL_eq r l]; rfl

/-! What a value leads to. -/
mutual
def LV.refs : LV → List Nat
  | .und | .anyb | .p _ | .tight _ | .pin _ _ => []
  | .sl _ t _ => [t]
  | .gr t _ => [t]
  | .ptr o _ _ | .rs o _ _ | .mp o | .it o => [o]
  | .fn _ first captured => LV.refsL first ++ LV.refsL captured
  | .ifc _ v => LV.refs v
  | .agg cs | .tup cs => LV.refsL cs
def LV.refsL : List LV → List Nat
  | [] => []
  | v :: l => LV.refs v ++ LV.refsL l
end

theorem LV.refsL_eq : ∀ l, LV.refsL l = l.flatMap LV.refs
  | [] => rfl
  | v :: l => by rw [LV.refsL, LV.refsL_eq l]; rfl

theorem VL.ren {G G' : Gh} (hF : ∀ b o v, G.F b o = some v → G'.F b o = some v) (r : Nat → Nat) {v : LV} {u : Value} (h : VL G v u) :
    (∀ o ∈ v.refs, ∀ l, G.loc o = some l → G'.loc (r o) = some l) → (∀ o ∈ v.refs, ∀ f s, G.hist o f = some s → G'.hist (r o) f = some s) →
    VL G' (v.ren r) u := by
  induction h with
  | und u => intros; rw [LV.ren]; exact .und u
  | anyb b => intros; rw [LV.ren]; exact .anyb b
  | p h => intros; rw [LV.ren]; exact .p (h.mono hF)
  | @sl es t fin size b o cap h hcap hs hh => intro h1 h2; rw [LV.ren]; exact .sl (h.mono hF) hcap hs (h2 t (by simp [LV.refs]) _ _ hh)
  | tight h => intros; rw [LV.ren]; exact .tight (h.mono hF)
  | gr hn hm hh => intro _ h2; rw [LV.ren]; exact .gr hn hm (h2 _ (by simp [LV.refs]) _ _ hh)
  | @ptr o i off blk size n h => intro h1 _; rw [LV.ren]; exact .ptr (h1 o (by simp [LV.refs]) _ h)
  | pin vals h hv => intros; rw [LV.ren]; exact .pin vals (fun j p e => hF _ _ _ (h j p e)) (fun j p e => (hv j p e).mono hF)
  | @rs o off len cap blk size n h hm hlc hn => intro h1 _; rw [LV.ren]; exact .rs (h1 o (by simp [LV.refs]) _ h) hm hlc hn
  | @mp o blk h => intro h1 _; rw [LV.ren]; exact .mp (h1 o (by simp [LV.refs]) _ h)
  | @it o blk h => intro h1 _; rw [LV.ren]; exact .it (h1 o (by simp [LV.refs]) _ h)
  | @fn f first captured vf vc s1 s2 hf hc ih1 ih2 =>
    intro h1 h2
    simp only [LV.refs, LV.refsL_eq] at h1 h2
    rw [LV.ren]
    simp only [LV.renL_eq]
    refine .fn f vf vc (by simp [s1]) (by simp [s2]) ?_ ?_
    · intro i x hx
      rw [List.getElem?_map] at hx
      cases hy : first[i]? with
      | none => simp [hy] at hx
      | some y =>
        simp [hy] at hx; subst hx
        have hm := List.mem_of_getElem? hy
        exact ih1 i y hy (fun o ho => h1 o (by simp only [List.mem_append, List.mem_flatMap]; exact .inl ⟨y, hm, ho⟩)) (fun o ho => h2 o (by simp only [List.mem_append, List.mem_flatMap]; exact .inl ⟨y, hm, ho⟩))
    · intro i x hx
      rw [List.getElem?_map] at hx
      cases hy : captured[i]? with
      | none => simp [hy] at hx
      | some y =>
        simp [hy] at hx; subst hx
        have hm := List.mem_of_getElem? hy
        exact ih2 i y hy (fun o ho => h1 o (by simp only [List.mem_append, List.mem_flatMap]; exact .inr ⟨y, hm, ho⟩)) (fun o ho => h2 o (by simp only [List.mem_append, List.mem_flatMap]; exact .inr ⟨y, hm, ho⟩))
  | ifc t _ ih => intro h1 h2; rw [LV.ren]; exact .ifc t (ih (by simpa [LV.refs] using h1) (by simpa [LV.refs] using h2))
  | @agg cs vs s1 s2 _ ih =>
    intro h1 h2
    simp only [LV.refs, LV.refsL_eq] at h1 h2
    rw [LV.ren]
    simp only [LV.renL_eq]
    refine .agg vs (by simp [s1]) s2 ?_
    intro i x hx
    rw [List.getElem?_map] at hx
    cases hy : cs[i]? with
    | none => simp [hy] at hx
    | some y =>
      simp [hy] at hx; subst hx
      have hm := List.mem_of_getElem? hy
      exact ih i y hy (fun o ho => h1 o (by simp only [List.mem_flatMap]; exact ⟨y, hm, ho⟩)) (fun o ho => h2 o (by simp only [List.mem_flatMap]; exact ⟨y, hm, ho⟩))
  | @tup cs vs s1 _ ih =>
    intro h1 h2
    simp only [LV.refs, LV.refsL_eq] at h1 h2
    rw [LV.ren]
    simp only [LV.renL_eq]
    refine .tup vs (by simp [s1]) ?_
    intro i x hx
    rw [List.getElem?_map] at hx
    cases hy : cs[i]? with
    | none => simp [hy] at hx
    | some y =>
      simp [hy] at hx; subst hx
      have hm := List.mem_of_getElem? hy
      exact ih i y hy (fun o ho => h1 o (by simp only [List.mem_flatMap]; exact ⟨y, hm, ho⟩)) (fun o ho => h2 o (by simp only [List.mem_flatMap]; exact ⟨y, hm, ho⟩))

theorem LV.ren_id (v : LV) : v.ren (fun o => o) = v := by
  induction v using LV.rec (motive_2 := fun l => l.map (LV.ren fun o => o) = l) <;> simp_all [LV.ren, LV.renL_eq]

theorem VL.mono {G G' : Gh} (hG : G.le G') {v : LV} {u : Value} (h : VL G v u) : VL G' v u := by
  have := VL.ren hG.F (fun o => o) h (fun o _ l hl => hG.loc o l hl) (fun o _ f s hs => hG.hist o f s hs)
  rwa [LV.ren_id] at this

end Go.LS

/- A small semantics of loaded Go code that the kernel can run, part 1. -/
import Derived.Laws.Sem
import Derived.Laws.World
import Derived.RegionTactic
import Derived.Below
import Derived.Laws.AppendOwn
namespace Go.LS
inductive PV where
  | bool (b : Bool)
  | int (k : IntKind) (n : Int)
  | str (s : List UInt8)
  | nilp
  | sl (es : List (List PV))
  | nilm
  | nilf
  | nili
  | ifc (t : TypeId) (v : PV)
  deriving Inhabited
inductive LV where
  | und
  | anyb
  | p (v : PV)
  | sl (es : List (List PV)) (t : Nat) (fin : Nat)
  | tight (es : List (List PV))
  | gr (t n : Nat)
  | ptr (o i off : Nat)
  | pin (cells : List PV) (off : Nat)
  | rs (o off len : Nat)
  | mp (o : Nat)
  | it (o : Nat)
  | fn (f : Fn) (first captured : List LV)
  | ifc (t : TypeId) (v : LV)
  | agg (cs : List LV)
  | tup (vs : List LV)
  deriving Inhabited
inductive LObj where
  | dead
  | row (es : List (List LV))
  | spare (size hw : Nat)
  | map (kv : List (PV × LV))
  | siter (s : List UInt8) (pos : Nat)
  deriving Inhabited
def at2 {α : Type} (es : List (List α)) (i j : Nat) : Option α := (es[i]?).bind (·[j]?)
inductive Loc where
  | row (blk size n : Nat)
  | map (blk : Nat)
  | iter (blk : Nat)
structure Sp where
  blk : Nat
  endo : Nat
  nsp : Nat
  size : Nat
structure Gh where
  F : Nat → Nat → Option Value
  loc : Nat → Option Loc
  hist : Nat → Nat → Option Sp
structure Gh.le (G G' : Gh) : Prop where
  F : ∀ b o v, G.F b o = some v → G'.F b o = some v
  loc : ∀ o l, G.loc o = some l → G'.loc o = some l
  hist : ∀ t f s, G.hist t f = some s → G'.hist t f = some s
theorem Gh.le.refl (G : Gh) : G.le G := ⟨fun _ _ _ h => h, fun _ _ h => h, fun _ _ _ h => h⟩
theorem Gh.le.trans {A B C : Gh} (h : A.le B) (k : B.le C) : A.le C :=
  ⟨fun _ _ _ x => k.F _ _ _ (h.F _ _ _ x), fun _ _ x => k.loc _ _ (h.loc _ _ x), fun _ _ _ x => k.hist _ _ _ (h.hist _ _ _ x)⟩
inductive VP (F : Nat → Nat → Option Value) : PV → Value → Prop where
  | bool (b : Bool) : VP F (.bool b) (.bool b)
  | int (k : IntKind) (n : Int) : VP F (.int k n) (.int k n)
  | str (s : List UInt8) : VP F (.str s) (.string ⟨s.toArray⟩)
  | nilp : VP F .nilp (.pointer none)
  | nils : VP F (.sl []) (.slice none 0 0)
  | sl0 (a : Addr) (cap : Nat) (hm : cap ≤ maxLen) : VP F (.sl []) (.slice (some a) 0 cap)
  | sl (es : List (List PV)) (size b o cap : Nat) (vals : Nat → Nat → Value)
      (hcap : es.length ≤ cap) (hm : cap ≤ maxLen) (hsz : ∀ e ∈ es, e.length = size)
      (hF : ∀ i j p, at2 es i j = some p → F b (o + i * size + j) = some (vals i j))
      (hv : ∀ i j p, at2 es i j = some p → VP F p (vals i j)) : VP F (.sl es) (.slice (some ⟨b, o, none⟩) es.length cap)
  | nilm : VP F .nilm (.map none)
  | nilf : VP F .nilf .nilFunc
  | nili : VP F .nili .nilIface
  | ifc (t : TypeId) (v : PV) (u : Value) (h : VP F v u) : VP F (.ifc t v) (.iface t u)
inductive VL (G : Gh) : LV → Value → Prop where
  | und (u : Value) : VL G .und u
  | anyb (b : Bool) : VL G .anyb (.bool b)
  | p {v : PV} {u : Value} (h : VP G.F v u) : VL G (.p v) u
  | sl {es : List (List PV)} {t fin size b o cap : Nat} (h : VP G.F (.sl es) (.slice (some ⟨b, o, none⟩) es.length cap))
      (hcap : es.length ≤ cap) (hs : ∀ e ∈ es, e.length = size)
      (hh : G.hist t fin = some ⟨b, o + es.length * size, cap - es.length, size⟩) : VL G (.sl es t fin) (.slice (some ⟨b, o, none⟩) es.length cap)
  | tight {es : List (List PV)} {a : Option Addr} (h : VP G.F (.sl es) (.slice a es.length es.length)) : VL G (.tight es) (.slice a es.length es.length)
  | gr {t n size b o cap : Nat} (hn : n ≤ cap) (hm : cap ≤ maxLen) (hh : G.hist t 0 = some ⟨b, o, cap, size⟩) : VL G (.gr t n) (.slice (some ⟨b, o, none⟩) n cap)
  | ptr {o i off blk size n : Nat} (h : G.loc o = some (.row blk size n)) : VL G (.ptr o i off) (.pointer (some ⟨blk, i * size + off, none⟩))
  | pin {cells : List PV} {off b base : Nat} (vals : Nat → Value) (hF : ∀ j p, cells[j]? = some p → G.F b (base + j) = some (vals j))
      (hv : ∀ j p, cells[j]? = some p → VP G.F p (vals j)) : VL G (.pin cells off) (.pointer (some ⟨b, base + off, none⟩))
  | rs {o off len cap blk size n : Nat} (h : G.loc o = some (.row blk size n)) (hm : cap ≤ maxLen) (hlc : len ≤ cap) (hn : off + cap = n) : VL G (.rs o off len) (.slice (some ⟨blk, off * size, none⟩) len cap)
  | mp {o blk : Nat} (h : G.loc o = some (.map blk)) : VL G (.mp o) (.map (some blk))
  | it {o blk : Nat} (h : G.loc o = some (.iter blk)) : VL G (.it o) (.pointer (some ⟨blk, 0, none⟩))
  | fn (f : Fn) {first captured : List LV} (vf vc : Array Value) (h1 : vf.size = first.length) (h2 : vc.size = captured.length)
      (hf : ∀ (i : Nat) x, first[i]? = some x → VL G x (vf.getD i undef)) (hc : ∀ (i : Nat) x, captured[i]? = some x → VL G x (vc.getD i undef)) :
      VL G (.fn f first captured) (.func f vf vc)
  | ifc (t : TypeId) {v : LV} {u : Value} (h : VL G v u) : VL G (.ifc t v) (.iface t u)
  | agg {cs : List LV} (vs : Array Value) (h1 : vs.size = cs.length) (h2 : ∀ (i : Nat) u, vs[i]? = some u → u.oneCell' = true)
      (h : ∀ (i : Nat) x, cs[i]? = some x → VL G x (vs.getD i undef)) : VL G (.agg cs) (.agg vs)
  | tup {cs : List LV} (vs : Array Value) (h1 : vs.size = cs.length) (h : ∀ (i : Nat) x, cs[i]? = some x → VL G x (vs.getD i undef)) : VL G (.tup cs) (.tuple vs)
theorem VP.one {F : Nat → Nat → Option Value} {p : PV} {u : Value} (h : VP F p u) : u.oneCell' = true := by cases h <;> rfl
theorem VP.mono {F F' : Nat → Nat → Option Value} (hF : ∀ b o v, F b o = some v → F' b o = some v) {p : PV} {u : Value} (h : VP F p u) : VP F' p u := by
  induction h with
  | sl es size b o cap vals hcap hm hsz h1 _ ih => exact .sl es size b o cap vals hcap hm hsz (fun i j p h => hF _ _ _ (h1 i j p h)) ih
  | ifc t v u _ ih => exact .ifc t v u ih
  | bool => exact .bool _
  | int => exact .int _ _
  | str => exact .str _
  | nilp => exact .nilp
  | nils => exact .nils
  | sl0 a cap hm => exact .sl0 a cap hm
  | nilm => exact .nilm
  | nilf => exact .nilf
  | nili => exact .nili
mutual
def LV.ren (r : Nat → Nat) : LV → LV
  | .und => .und
  | .anyb => .anyb
  | .p v => .p v
  | .sl es t fin => .sl es (r t) fin
  | .tight es => .tight es
  | .gr t n => .gr (r t) n
  | .ptr o i off => .ptr (r o) i off
  | .pin cells off => .pin cells off
  | .rs o off len => .rs (r o) off len
  | .mp o => .mp (r o)
  | .it o => .it (r o)
  | .fn f first captured => .fn f (LV.renL r first) (LV.renL r captured)
  | .ifc t v => .ifc t (LV.ren r v)
  | .agg cs => .agg (LV.renL r cs)
  | .tup vs => .tup (LV.renL r vs)
def LV.renL (r : Nat → Nat) : List LV → List LV
  | [] => []
  | v :: l => LV.ren r v :: LV.renL r l
end
theorem LV.renL_eq (r : Nat → Nat) : ∀ l, LV.renL r l = l.map (LV.ren r)
  | [] => rfl
  | v :: l => by rw [LV.renL, LV.renL_eq r l]; rfl
mutual
def LV.refs : LV → List Nat
  | .und | .anyb | .p _ | .tight _ | .pin _ _ => []
  | .sl _ t _ => [t]
  | .gr t _ => [t]
  | .ptr o _ _ | .rs o _ _ | .mp o | .it o => [o]
  | .fn _ first captured => LV.refsL first ++ LV.refsL captured
  | .ifc _ v => LV.refs v
  | .agg cs | .tup cs => LV.refsL cs
def LV.refsL : List LV → List Nat
  | [] => []
  | v :: l => LV.refs v ++ LV.refsL l
end
theorem LV.refsL_eq : ∀ l, LV.refsL l = l.flatMap LV.refs
  | [] => rfl
  | v :: l => by rw [LV.refsL, LV.refsL_eq l]; rfl
theorem VL.ren {G G' : Gh} (hF : ∀ b o v, G.F b o = some v → G'.F b o = some v) (r : Nat → Nat) {v : LV} {u : Value} (h : VL G v u) :
    (∀ o ∈ v.refs, ∀ l, G.loc o = some l → G'.loc (r o) = some l) → (∀ o ∈ v.refs, ∀ f s, G.hist o f = some s → G'.hist (r o) f = some s) →
    VL G' (v.ren r) u := by
  induction h with
  | und u => intros; rw [LV.ren]; exact .und u
  | anyb b => intros; rw [LV.ren]; exact .anyb b
  | p h => intros; rw [LV.ren]; exact .p (h.mono hF)
  | @sl es t fin size b o cap h hcap hs hh => intro h1 h2; rw [LV.ren]; exact .sl (h.mono hF) hcap hs (h2 t (by simp [LV.refs]) _ _ hh)
  | tight h => intros; rw [LV.ren]; exact .tight (h.mono hF)
  | gr hn hm hh => intro _ h2; rw [LV.ren]; exact .gr hn hm (h2 _ (by simp [LV.refs]) _ _ hh)
  | @ptr o i off blk size n h => intro h1 _; rw [LV.ren]; exact .ptr (h1 o (by simp [LV.refs]) _ h)
  | pin vals h hv => intros; rw [LV.ren]; exact .pin vals (fun j p e => hF _ _ _ (h j p e)) (fun j p e => (hv j p e).mono hF)
  | @rs o off len cap blk size n h hm hlc hn => intro h1 _; rw [LV.ren]; exact .rs (h1 o (by simp [LV.refs]) _ h) hm hlc hn
  | @mp o blk h => intro h1 _; rw [LV.ren]; exact .mp (h1 o (by simp [LV.refs]) _ h)
  | @it o blk h => intro h1 _; rw [LV.ren]; exact .it (h1 o (by simp [LV.refs]) _ h)
  | @fn f first captured vf vc s1 s2 hf hc ih1 ih2 =>
    intro h1 h2
    simp only [LV.refs, LV.refsL_eq] at h1 h2
    rw [LV.ren]
    simp only [LV.renL_eq]
    refine .fn f vf vc (by simp [s1]) (by simp [s2]) ?_ ?_
    · intro i x hx
      rw [List.getElem?_map] at hx
      cases hy : first[i]? with
      | none => simp [hy] at hx
      | some y =>
        simp [hy] at hx; subst hx
        have hm := List.mem_of_getElem? hy
        exact ih1 i y hy (fun o ho => h1 o (by simp only [List.mem_append, List.mem_flatMap]; exact .inl ⟨y, hm, ho⟩)) (fun o ho => h2 o (by simp only [List.mem_append, List.mem_flatMap]; exact .inl ⟨y, hm, ho⟩))
    · intro i x hx
      rw [List.getElem?_map] at hx
      cases hy : captured[i]? with
      | none => simp [hy] at hx
      | some y =>
        simp [hy] at hx; subst hx
        have hm := List.mem_of_getElem? hy
        exact ih2 i y hy (fun o ho => h1 o (by simp only [List.mem_append, List.mem_flatMap]; exact .inr ⟨y, hm, ho⟩)) (fun o ho => h2 o (by simp only [List.mem_append, List.mem_flatMap]; exact .inr ⟨y, hm, ho⟩))
  | ifc t _ ih => intro h1 h2; rw [LV.ren]; exact .ifc t (ih (by simpa [LV.refs] using h1) (by simpa [LV.refs] using h2))
  | @agg cs vs s1 s2 _ ih =>
    intro h1 h2
    simp only [LV.refs, LV.refsL_eq] at h1 h2
    rw [LV.ren]
    simp only [LV.renL_eq]
    refine .agg vs (by simp [s1]) s2 ?_
    intro i x hx
    rw [List.getElem?_map] at hx
    cases hy : cs[i]? with
    | none => simp [hy] at hx
    | some y =>
      simp [hy] at hx; subst hx
      have hm := List.mem_of_getElem? hy
      exact ih i y hy (fun o ho => h1 o (by simp only [List.mem_flatMap]; exact ⟨y, hm, ho⟩)) (fun o ho => h2 o (by simp only [List.mem_flatMap]; exact ⟨y, hm, ho⟩))
  | @tup cs vs s1 _ ih =>
    intro h1 h2
    simp only [LV.refs, LV.refsL_eq] at h1 h2
    rw [LV.ren]
    simp only [LV.renL_eq]
    refine .tup vs (by simp [s1]) ?_
    intro i x hx
    rw [List.getElem?_map] at hx
    cases hy : cs[i]? with
    | none => simp [hy] at hx
    | some y =>
      simp [hy] at hx; subst hx
      have hm := List.mem_of_getElem? hy
      exact ih i y hy (fun o ho => h1 o (by simp only [List.mem_flatMap]; exact ⟨y, hm, ho⟩)) (fun o ho => h2 o (by simp only [List.mem_flatMap]; exact ⟨y, hm, ho⟩))
theorem LV.ren_id (v : LV) : v.ren (fun o => o) = v := by
  induction v using LV.rec (motive_2 := fun l => l.map (LV.ren fun o => o) = l) <;> simp_all [LV.ren, LV.renL_eq]
theorem VL.mono {G G' : Gh} (hG : G.le G') {v : LV} {u : Value} (h : VL G v u) : VL G' v u := by
  have := VL.ren hG.F (fun o => o) h (fun o _ l hl => hG.loc o l hl) (fun o _ f s hs => hG.hist o f s hs)
  rwa [LV.ren_id] at this
end Go.LS
namespace Go.LS
inductive LX where
  | tmp (t : Nat)
  | const (v : LV)
  deriving Inhabited
inductive Cv where
  | int (k : IntKind)
  | str
  | s2b
  | b2s
  deriving Inhabited
inductive KK where
  | int
  | str
  | bool
  deriving Inhabited
def KK.fits : KK → PV → Bool
  | .int, .int _ _ => true
  | .str, .str _ => true
  | .bool, .bool _ => true
  | _, _ => false
inductive NK where
  | slice
  | map
  | func
  | iface
  deriving Inhabited
def LV.nilq (neg : Bool) (k : NK) (v : LV) : Option LV :=
  match k, v with
  | .slice, .p (.sl []) => some .anyb
  | .slice, .p (.sl (_ :: _)) => some (.p (.bool neg))
  | .slice, .tight [] => some .anyb
  | .slice, .tight (_ :: _) => some (.p (.bool neg))
  | .slice, .sl _ _ _ => some (.p (.bool neg))
  | .slice, .rs _ _ _ => some (.p (.bool neg))
  | .map, .p .nilm => some (.p (.bool !neg))
  | .map, .mp _ => some (.p (.bool neg))
  | .func, .p .nilf => some (.p (.bool !neg))
  | .func, .fn _ _ _ => some (.p (.bool neg))
  | .iface, .p .nili => some (.p (.bool !neg))
  | .iface, .p (.ifc _ _) => some (.p (.bool neg))
  | .iface, .ifc _ _ => some (.p (.bool neg))
  | _, _ => none
inductive LOp where
  | mv (x : LX)
  | pick (c a b : LX)
  | alloc (z : List LV)
  | box (x : LX)
  | build (z : List LV) (parts : List (Nat × Nat × LX))
  | mkrow (r : Bool) (size len : Nat) (z : List LV) (parts : List (Nat × LX))
  | load (agg : Bool) (n : Nat) (x : LX)
  | store (n : Nat) (x v : LX)
  | nilChk (x : LX)
  | bin (op : BinOp) (x y : LX)
  | beq (neg : Bool) (x y : LX)
  | peq (neg : Bool) (x y : LX)
  | nileq (neg : Bool) (k : NK) (x : LX)
  | un (op : UnOp) (x : LX)
  | cv (k : Cv) (x : LX)
  | fn (f : FuncId) (captured : List LX)
  | iface (t : TypeId) (x : LX)
  | mkmap
  | mkslice (size bytes : Nat) (z : List LV) (len cap : LX)
  | sslice (x : LX) (lo hi mx : Option LX)
  | slice (size : Nat) (x : LX) (lo hi mx : Option LX)
  | fieldAddr (off : Nat) (x : LX)
  | field (agg : Bool) (off n : Nat) (x : LX)
  | indexAddr (size : Nat) (x i : LX)
  | arrAddr (len size : Nat) (x i : LX)
  | index (x i : LX)
  | arrIndex (agg : Bool) (len size : Nat) (x i : LX)
  | lookup (kk : KK) (z : LV) (ok : Bool) (x i : LX)
  | mapUpdate (kk : KK) (m k v : LX)
  | delete (kk : KK) (m k : LX)
  | range (x : LX)
  | next (x : LX)
  | extract (x : LX) (i : Nat)
  | call (f : FuncId) (args : List LX)
  | callv (f : LX) (args : List LX)
  | callz (f : FuncId) (args : List LX)
  | append (str : Bool) (size bytes : Nat) (s x : LX)
  | grow (size bytes : Nat) (s x : LX)
  | len (x : LX)
  | slen (x : LX)
  | mlen (x : LX)
  | const (v : LV)
  | cap (x : LX)
  | mx (x y : LX)
  | mn (x y : LX)
  | retire (x : LX)
  | fnm (f : FuncId) (first captured : List LX)
  | clearS (z : List LV) (x : LX)
  | appendR (size bytes : Nat) (s x : LX)
  | seq (neg : Bool) (offs : List (Nat × KK)) (x y : LX)
  | fail
  deriving Inhabited
def LX.ev (t : List LV) : LX → LV
  | .tmp i => t.getD i .und
  | .const v => v
def bs (l : List UInt8) : List (List PV) := l.map fun b => [.int .u8 b.toNat]
def unb : List PV → Option UInt8
  | [.int .u8 n] => some (UInt8.ofNat n.toNat)
  | _ => none
def unbs : List (List PV) → Option (List UInt8)
  | [] => some []
  | e :: r => match unb e, unbs r with
    | some b, some l => some (b :: l)
    | _, _ => none
def LV.cells? : LV → Option (List LV)
  | .agg cs => some cs
  | .und | .anyb | .tup _ | .gr _ _ => none
  | v => some [v]
def LV.toPV : LV → Option PV
  | .p v => some v
  | .sl es _ _ => some (.sl es)
  | .tight es => some (.sl es)
  | .ifc t v => match v.toPV with | some q => some (.ifc t q) | none => none
  | _ => none
def toPVs : List LV → Option (List PV)
  | [] => some []
  | v :: r => match v.toPV, toPVs r with
    | some p, some l => some (p :: l)
    | _, _ => none
def LV.asSl : LV → Option (List (List PV))
  | .p (.sl es) => some es
  | .sl es _ _ => some es
  | .tight es => some es
  | _ => none
def LV.asInt : LV → Option Int
  | .p (.int _ n) => some n
  | _ => none
def ofCells (agg : Bool) (cs : List LV) : Option LV :=
  if agg then some (.agg cs) else match cs with
    | [v] => some v
    | _ => none
def ibin (op : BinOp) (k : IntKind) (a b : Int) : Option PV :=
  match op with
  | .add => some (.int k (k.wrap (a + b)))
  | .sub => some (.int k (k.wrap (a - b)))
  | .mul => some (.int k (k.wrap (a * b)))
  | .quo => if b = 0 then none else some (.int k (k.wrap (a.tdiv b)))
  | .rem => if b = 0 then none else some (.int k (a.tmod b))
  | .and => some (.int k (k.wrap (BitVec.ofInt k.bits a &&& BitVec.ofInt k.bits b).toNat))
  | .or => some (.int k (k.wrap (BitVec.ofInt k.bits a ||| BitVec.ofInt k.bits b).toNat))
  | .xor => some (.int k (k.wrap (BitVec.ofInt k.bits a ^^^ BitVec.ofInt k.bits b).toNat))
  | .andNot => some (.int k (k.wrap (BitVec.ofInt k.bits a &&& ~~~ BitVec.ofInt k.bits b).toNat))
  | .eql => some (.bool (a == b))
  | .neq => some (.bool (a != b))
  | .lss => some (.bool (a < b))
  | .leq => some (.bool (a ≤ b))
  | .gtr => some (.bool (a > b))
  | .geq => some (.bool (a ≥ b))
  | _ => none
def sbin (op : BinOp) (a b : List UInt8) : Option PV :=
  match op with
  | .add => if a.length + b.length ≤ 9223372036854775807 then some (.str (a ++ b)) else none
  | .eql => some (.bool (a == b))
  | .neq => some (.bool (!(a == b)))
  | .lss => some (.bool (Op.bytesLess a b))
  | .leq => some (.bool (Op.bytesLess a b || a == b))
  | .gtr => some (.bool (!(Op.bytesLess a b || a == b)))
  | .geq => some (.bool (!(Op.bytesLess a b)))
  | _ => none
def LV.isNilPtr : LV → Option Bool
  | .p .nilp => some true
  | .ptr _ _ _ => some false
  | .pin _ _ => some false
  | _ => none
def nilbin (neg : Bool) (x y : LV) : Option PV :=
  match x.isNilPtr, y.isNilPtr with
  | some a, some true => some (.bool (a != neg))
  | some true, some b => some (.bool (b != neg))
  | _, _ => none
def lbin (op : BinOp) (x y : LV) : Option PV :=
  match x, y with
  | .p (.int k a), .p (.int j b) =>
    match op with
    | .shl => if b < 0 then none else some (.int k (k.wrap (a * 2 ^ (min b.toNat k.bits))))
    | .shr => if b < 0 then none else some (.int k (a.fdiv (2 ^ (min b.toNat k.bits))))
    | _ => if k = j then ibin op k a b else none
  | .p (.str a), .p (.str b) => sbin op a b
  | _, _ => none
def boolbin (neg : Bool) (x y : LV) : Option PV :=
  match x, y with
  | .p (.bool a), .p (.bool b) => some (.bool ((a == b) != neg))
  | _, _ => none
def lun (op : UnOp) (x : LV) : Option PV :=
  match op, x with
  | .neg, .p (.int k n) => some (.int k (k.wrap (0 - n)))
  | .xor, .p (.int k n) => some (.int k (k.wrap (BitVec.ofInt k.bits (if k.signed then -1 else k.max) ^^^ BitVec.ofInt k.bits n).toNat))
  | .not, .p (.bool b) => some (.bool (!b))
  | _, _ => none
def lcv (k : Cv) (x : LV) : Option PV :=
  match k, x with
  | .int k, .p (.int _ n) => some (.int k (k.wrap n))
  | .str, .p (.str s) => some (.str s)
  | .s2b, .p (.str s) => if s.length ≤ 140737488355328 then some (.sl (bs s)) else none
  | .b2s, x => match x.asSl with
    | some es => match unbs es with
      | some l => some (.str l)
      | none => none
    | none => none
  | _, _ => none
def bnd (y : Nat) : Option LV → Nat → Option Nat
  | none, d => some d
  | some (.p (.int _ n)), _ => if 0 ≤ n ∧ n ≤ y then some n.toNat else none
  | some _, _ => none
def lslice (x : LV) (lo hi mx : Option LV) : Option LV :=
  match x with
  | .p (.str s) => if mx.isSome then none else
    match bnd s.length hi s.length with
    | some h => match bnd h lo 0 with
      | some l => some (.p (.str ((s.take h).drop l)))
      | none => none
    | none => none
  | x => if mx.isSome ∧ hi.isNone then none else match x.asSl with
    | none => none
    | some es => match bnd es.length mx es.length with
      | none => none
      | some m => match bnd m hi es.length with
        | none => none
        | some h => match bnd h lo 0 with
          | none => none
          | some l =>
            if mx.isSome ∧ h = m then some (.tight ((es.take h).drop l))
            else if mx.isNone ∧ h = es.length ∧ l < es.length then
              (match x with
               | .sl es t fin => some (.sl (es.drop l) t fin)
               | .tight es => some (.tight (es.drop l))
               | _ => some (.p (.sl (es.drop l))))
            else some (.p (.sl ((es.take h).drop l)))
def rslice (size : Nat) (st : List LObj) (x : LV) (lo hi mx : Option LV) : Option LV :=
  match x with
  | .rs o off len => match st[o]? with
    | some (.row es) => match mx with
      | none => match bnd (es.length - off) hi len with
        | some h => match bnd h lo 0 with
          | some l => if l < es.length - off ∧ off + len ≤ es.length then
              match es[off]? with
              | some e => if e.length = size then some (.rs o (off + l) (h - l)) else none
              | none => none
            else if l = es.length - off ∧ off + len ≤ es.length then some (.p (.sl [])) else none
          | none => none
        | none => none
      | some _ => if hi.isNone ∨ ¬ off + len ≤ es.length then none else
        match bnd (es.length - off) mx len with
        | some m => match bnd m hi len with
          | some h => match bnd h lo 0 with
            | some l => if m = l then some (.tight []) else some .und
            | none => none
          | none => none
        | none => none
    | _ => none
  | .gr tg n => if lo.isSome ∨ mx.isSome then none else match bnd n hi n with
    | some 0 => some (.sl [] tg 0)
    | _ => none
  | .tight [] => if lo.isSome ∨ mx.isSome then lslice (.tight []) lo hi mx else match bnd 0 hi 0 with
    | some _ => some (.tight [])
    | none => none
  | x => match x.asSl with
    | some es => if es.all (fun e => e.length == size) then lslice x lo hi mx else none
    | none => none
def setParts (z : List LV) : List (Nat × Nat × List LV) → Option (List LV)
  | [] => some z
  | (off, n, cs) :: r => if cs.length = n ∧ off + n ≤ z.length then setParts (z.take off ++ cs ++ z.drop (off + n)) r else none
def evParts (t : List LV) : List (Nat × Nat × LX) → Option (List (Nat × Nat × List LV))
  | [] => some []
  | (off, n, x) :: r => match (x.ev t).cells?, evParts t r with
    | some cs, some l => some ((off, n, cs) :: l)
    | _, _ => none
def litRow (size : Nat) : List (List LV) → List (Nat × List LV) → Option (List (List LV))
  | es, [] => some es
  | es, (i, cs) :: r => if cs.length = size ∧ i < es.length then litRow size (es.set i cs) r else none
def evRow (t : List LV) : List (Nat × LX) → Option (List (Nat × List LV))
  | [] => some []
  | (i, x) :: r => match (x.ev t).cells?, evRow t r with
    | some cs, some l => some ((i, cs) :: l)
    | _, _ => none
def rowPV : List (List LV) → Option (List (List PV))
  | [] => some []
  | e :: r => match toPVs e, rowPV r with
    | some p, some l => some (p :: l)
    | _, _ => none
def LV.ldAt (st : List LObj) (n : Nat) : LV → Option (List LV)
  | .ptr o i off => match st[o]? with
    | some (.row es) => match es[i]? with
      | some e => if off + n ≤ e.length then some ((e.drop off).take n) else none
      | none => none
    | _ => none
  | .pin cells off => if off + n ≤ cells.length then some (((cells.drop off).take n).map .p) else none
  | _ => none
def LV.stAt (st : List LObj) (cs : List LV) : LV → Option (List LObj)
  | .ptr o i off => match st[o]? with
    | some (.row es) => match es[i]? with
      | some e => if off + cs.length ≤ e.length then some (st.set o (.row (es.set i (e.take off ++ cs ++ e.drop (off + cs.length))))) else none
      | none => none
    | _ => none
  | _ => none
def pvEq : PV → PV → Option Bool
  | .int k a, .int j b => if k = j then some (a == b) else none
  | .str a, .str b => some (a == b)
  | .bool a, .bool b => some (a == b)
  | _, _ => none
def eqCells (xs ys : List LV) : List (Nat × KK) → Option Bool
  | [] => some true
  | (o, kk) :: r => match xs[o]?, ys[o]? with
    | some (.p a), some (.p b) => if kk.fits a then
        match pvEq a b, eqCells xs ys r with
        | some p, some q => some (p && q)
        | _, _ => none
      else none
    | _, _ => none
def mfind (k : PV) : List (PV × LV) → Option (Option LV)
  | [] => some none
  | (j, v) :: r => match pvEq k j with
    | some true => some (some v)
    | some false => mfind k r
    | none => none
def mset (k : PV) (v : LV) : List (PV × LV) → Option (List (PV × LV))
  | [] => some [(k, v)]
  | (j, u) :: r => match pvEq k j with
    | some true => some ((k, v) :: r)
    | some false => match mset k v r with
      | some l => some ((j, u) :: l)
      | none => none
    | none => none
def mdel (k : PV) : List (PV × LV) → Option (List (PV × LV))
  | [] => some []
  | (j, u) :: r => match pvEq k j with
    | some true => some r
    | some false => match mdel k r with
      | some l => some ((j, u) :: l)
      | none => none
    | none => none
def mlook (st : List LObj) (k : PV) : LV → Option (Option LV)
  | .p .nilm => some none
  | .mp o => (match st[o]? with
    | some (.map kv) => mfind k kv
    | _ => none)
  | _ => none
def appended (str : Bool) (st : List LObj) (x : LV) : Option (List (List PV)) :=
  match x with
  | .p (.str s) => if str then some (bs s) else none
  | .rs o off len => match st[o]? with
    | some (.row es) => if off + len ≤ es.length then rowPV ((es.drop off).take len) else none
    | _ => none
  | x => x.asSl
def sized (n : Nat) (es : List (List PV)) : Bool := es.all fun e => e.length == n
def roomy (n bytes : Nat) : Bool := decide (n * bytes ≤ 140737488355328) || decide ((n + n / 4 + 192) * bytes ≤ 281474976710656)
theorem roomy_of {n bytes : Nat} (h : n * bytes ≤ 140737488355328) : roomy n bytes = true := by simp [roomy, h]
theorem roomy1 {n : Nat} (h : n ≤ 200000000000000) : roomy n 1 = true := by
  simp only [roomy, Bool.or_eq_true, decide_eq_true_eq]
  omega
def lappend (str : Bool) (size bytes : Nat) (st : List LObj) (s x : LV) : Option (LV × List LObj) :=
  match appended str st x with
  | none => none
  | some xs => if !sized size xs then none else
    match s with
    | .tight es =>
      if xs.isEmpty then some (s, st)
      else if sized size es ∧ roomy (es.length + xs.length) bytes = true ∧ es.length + xs.length ≤ maxLen ∧ 0 < size then
        some (.sl (es ++ xs) st.length (es.length + xs.length), st ++ [.spare size (es.length + xs.length)])
      else none
    | .sl es t fin =>
      match st[t]? with
      | some (.spare n hw) =>
        if xs.isEmpty then some (s, st)
        else if n = size ∧ hw = fin ∧ roomy (es.length + xs.length) bytes = true ∧ es.length + xs.length ≤ maxLen ∧ 0 < size then
          some (.sl (es ++ xs) t (fin + xs.length), st.set t (.spare size (fin + xs.length)))
        else none
      | _ => none
    | _ => none
def appendedR (st : List LObj) (x : LV) : Option (List (List LV)) :=
  match x with
  | .rs o off len => match st[o]? with
    | some (.row es) => if off + len ≤ es.length then some ((es.drop off).take len) else none
    | _ => none
  | x => match x.asSl with
    | some ps => some (ps.map fun e => e.map .p)
    | none => none
def sizedL (n : Nat) (es : List (List LV)) : Bool := es.all fun e => e.length == n
def rappend (size bytes : Nat) (st : List LObj) (s x : LV) : Option (LV × List LObj) :=
  match appendedR st x with
  | none => none
  | some xs => if !sizedL size xs then none else
    match s with
    | .tight [] => if xs.isEmpty then some (.tight [], st)
      else if roomy xs.length bytes = true ∧ xs.length ≤ maxLen ∧ 0 < size then some (.rs st.length 0 xs.length, st ++ [.row xs]) else none
    | .rs o 0 len => match st[o]? with
      | some (.row es) => if xs.isEmpty then some (.rs o 0 len, st)
        else if len = es.length ∧ 0 < len ∧ sizedL size es ∧ roomy (len + xs.length) bytes = true ∧ len + xs.length ≤ maxLen ∧ 0 < size then some (.rs st.length 0 (len + xs.length), st.set o .dead ++ [.row (es ++ xs)])
        else if len + xs.length ≤ es.length ∧ sizedL size es ∧ 0 < size then some (.rs o 0 (len + xs.length), st.set o (.row (es.take len ++ xs ++ es.drop (len + xs.length)))) else none
      | _ => none
    | _ => none
def orA {α : Type} (a b : Option α) : Option α :=
  match a with
  | some r => some r
  | none => b
@[simp] theorem orA_some {α : Type} (r : α) (b : Option α) : orA (some r) b = some r := rfl
theorem orA_of {α : Type} {a b : Option α} {r : α} (h : a = some r) : orA a b = some r := by rw [h]; rfl
@[simp] theorem orA_none {α : Type} (b : Option α) : orA none b = b := rfl
def LV.weak1 : LV → LV
  | .sl es _ _ => .p (.sl es)
  | .tight es => .p (.sl es)
  | v => v
def LV.weak : LV → LV
  | .agg cs => .agg (cs.map LV.weak1)
  | v => v.weak1
def wk (b : Bool) (args : List LV) : List LV := match b with
  | true => args.map LV.weak
  | false => args
def frzC (st : List LObj) : LV → LV × List LObj
  | .rs o off len => match st[o]? with
    | some (.row es) => if off + len ≤ es.length then (match rowPV ((es.drop off).take len) with
      | some qs => (.p (.sl qs), st.set o .dead)
      | none => (.rs o off len, st)) else (.rs o off len, st)
    | _ => (.rs o off len, st)
  | v => (v.weak1, st)
def frzCs : List LObj → List LV → List LV × List LObj
  | st, [] => ([], st)
  | st, v :: r => match frzC st v with
    | (v', st') => match frzCs st' r with
      | (r', st'') => (v' :: r', st'')
def frz1 (st : List LObj) : LV → LV × List LObj
  | .agg cs => match frzCs st cs with
    | (cs', st') => (.agg cs', st')
  | v => frzC st v
def frzL : List LObj → List LV → List LV × List LObj
  | st, [] => ([], st)
  | st, v :: r => match frz1 st v with
    | (v', st') => match frzL st' r with
      | (r', st'') => (v' :: r', st'')
def frz (b : Bool) (st : List LObj) (vs : List LV) : List LV × List LObj := match b with
  | true => frzL st vs
  | false => (vs, st)
structure CallF where
  run : FuncId → List LV → List LObj → Option (LV × List LObj)
  weak : Nat → Bool
instance : CoeFun CallF (fun _ => FuncId → List LV → List LObj → Option (LV × List LObj)) := ⟨CallF.run⟩
def LObj.refs : LObj → List Nat
  | .row es => es.flatMap fun e => e.flatMap LV.refs
  | .map kv => kv.flatMap fun x => x.2.refs
  | _ => []
def LObj.ren (r : Nat → Nat) : LObj → LObj
  | .row es => .row (es.map fun e => e.map (LV.ren r))
  | .map kv => .map (kv.map fun x => (x.1, x.2.ren r))
  | o => o
def reach (st : List LObj) : Nat → List Nat → List Nat → List Nat
  | 0, _, acc => acc
  | _ + 1, [], acc => acc
  | n + 1, o :: todo, acc => if acc.contains o then reach st n todo acc else reach st n (((st[o]?).getD .dead).refs ++ todo) (acc ++ [o])
def closed (st : List LObj) (ids : List Nat) : Bool := ids.all fun o => decide (o < st.length) && ((st[o]?).getD .dead).refs.all fun q => ids.contains q
def sub (st : List LObj) (ids : List Nat) : List LObj := ids.map fun o => ((st[o]?).getD .dead).ren fun q => ids.idxOf q
def back (ids : List Nat) (n : Nat) (j : Nat) : Nat := if h : j < ids.length then ids[j] else n + (j - ids.length)
def putBack (st : List LObj) : List Nat → List LObj → List LObj
  | o :: ids, x :: r => putBack (st.set o x) ids r
  | _, _ => st
def callIso (call : CallF) (f : FuncId) (args : List LV) (st : List LObj) : Option (LV × List LObj) :=
  let args := wk (call.weak f) args
  let ids := reach st 100000 (args.flatMap LV.refs) []
  if closed st ids && (args.flatMap LV.refs).all (ids.contains ·) && decide ids.Nodup then
    match call f (args.map (LV.ren fun q => ids.idxOf q)) (sub st ids) with
    | some (r, st') =>
      if ids.length ≤ st'.length then
        let b := back ids st.length
        some (r.ren b, putBack st ids ((st'.take ids.length).map (LObj.ren b)) ++ (st'.drop ids.length).map (LObj.ren b))
      else none
    | none => none
  else none
def gcIds (k : Nat) (st : List LObj) (roots : List Nat) : List Nat := reach st 100000 ((st.take k).flatMap LObj.refs ++ roots) (List.range k)
def gc (k : Nat) (vs : List LV) (st : List LObj) : Option (List LV × List LObj) :=
  let ids := gcIds k st (vs.flatMap LV.refs)
  if closed st ids && (vs.flatMap LV.refs).all (ids.contains ·) && decide ids.Nodup && decide (ids.take k = List.range k) then
    some (vs.map (LV.ren fun q => ids.idxOf q), sub st ids)
  else none
def frzV (st : List LObj) : LV → LV × List LObj
  | .tup vs => match frzL st vs with
    | (vs', st') => (.tup vs', st')
  | v => frz1 st v
def callFz (call : CallF) : CallF := ⟨fun f args st => match call f args st with
  | some (r, st') => match frzV st' r with
    | (r', st'') => match gc st.length [r'] st'' with
      | some ([r2], st3) => some (r2, st3)
      | _ => none
  | none => none, call.weak⟩
def opStep (call : CallF) (t : List LV) (st : List LObj) : LOp → Option (LV × List LObj)
  | .fail => none
  | .seq neg offs x y => match x.ev t, y.ev t with
    | .agg xs, .agg ys => match eqCells xs ys offs with
      | some b => some (.p (.bool (b != neg)), st)
      | none => none
    | _, _ => none
  | .retire x => match x.ev t with
    | .rs o off len => match st[o]? with
      | some (.row es) => if off + len ≤ es.length then
          match rowPV ((es.drop off).take len) with
          | some qs => some (.p (.sl qs), st.set o .dead)
          | none => none
        else none
      | _ => none
    | _ => none
  | .mv x => some (x.ev t, st)
  | .const v => some (v, st)
  | .pick c a b => match c.ev t with
    | .p (.bool c) => some (if c then a.ev t else b.ev t, st)
    | _ => none
  | .alloc z => some (.ptr st.length 0 0, st ++ [.row [z]])
  | .box x => match (x.ev t).cells? with
    | some cs => some (.ptr st.length 0 0, st ++ [.row [cs]])
    | none => none
  | .build z parts => match evParts t parts with
    | some ps => match setParts z ps with
      | some cs => some (.agg cs, st)
      | none => none
    | none => none
  | .mkrow r size len z parts => match evRow t parts with
    | none => none
    | some ps => match litRow size (List.replicate len z) ps with
      | none => none
      | some es => if r then some (.rs st.length 0 len, st ++ [.row es]) else
        match rowPV es with
        | some qs => some (.tight qs, st)
        | none => some (.rs st.length 0 len, st ++ [.row es])
  | .load agg n x => match (x.ev t).ldAt st n with
    | some cs => match ofCells agg cs with
      | some v => some (v, st)
      | none => none
    | none => none
  | .store n x v => match (v.ev t).cells? with
    | some cs => if cs.length = n then
        match (x.ev t).stAt st cs with
        | some st' => some (.tup [], st')
        | none => none
      else none
    | none => none
  | .nilChk x => match x.ev t with
    | .ptr o i off => some (.ptr o i off, st)
    | .pin cells off => some (.pin cells off, st)
    | .fn (.func f) first captured => some (.fn (.func f) first captured, st)
    | _ => none
  | .bin op x y => match lbin op (x.ev t) (y.ev t) with
    | some v => some (.p v, st)
    | none => none
  | .beq neg x y => match boolbin neg (x.ev t) (y.ev t) with
    | some v => some (.p v, st)
    | none => none
  | .peq neg x y => match nilbin neg (x.ev t) (y.ev t) with
    | some v => some (.p v, st)
    | none => none
  | .nileq neg k x => match (x.ev t).nilq neg k with
    | some v => some (v, st)
    | none => none
  | .un op x => match lun op (x.ev t) with
    | some v => some (.p v, st)
    | none => none
  | .cv k x => match lcv k (x.ev t) with
    | some v => some (.p v, st)
    | none => none
  | .fn f captured => some (.fn (.func f) [] (captured.map (LX.ev t)), st)
  | .fnm f first captured => some (.fn (.func f) (first.map (LX.ev t)) (captured.map (LX.ev t)), st)
  | .appendR size bytes s x => rappend size bytes st (s.ev t) (x.ev t)
  | .clearS z x => match x.ev t with
    | .rs o off len => if len = 0 then some (.tup [], st) else match st[o]? with
      | some (.row es) => if off + len ≤ es.length ∧ es.all (fun e => e.length == z.length) = true ∧ 0 < z.length then some (.tup [], st.set o (.row (es.take off ++ List.replicate len z ++ es.drop (off + len)))) else none
      | _ => none
    | .p (.sl []) => some (.tup [], st)
    | .tight [] => some (.tup [], st)
    | _ => none
  | .iface ty x => match x.ev t with
    | .und => none
    | .tup _ => none
    | v => some (.ifc ty v, st)
  | .mkmap => some (.mp st.length, st ++ [.map []])
  | .mkslice size bytes z len cap => match (len.ev t).asInt, (cap.ev t).asInt with
    | some l, some c =>
      if 0 ≤ l ∧ l ≤ c ∧ c * bytes ≤ 281474976710656 ∧ c ≤ maxLen ∧ z.length = size ∧ 0 < size then
        if l = 0 ∧ 0 < c then some (.sl [] st.length 0, st ++ [.spare size 0])
        else if l = c then some (.rs st.length 0 l.toNat, st ++ [.row (List.replicate l.toNat z)])
        else none
      else none
    | _, _ => none
  | .sslice x lo hi mx => match x.ev t with
    | .p (.str s) => match lslice (.p (.str s)) (lo.map (LX.ev t)) (hi.map (LX.ev t)) (mx.map (LX.ev t)) with
      | some v => some (v, st)
      | none => none
    | _ => none
  | .slice size x lo hi mx => match rslice size st (x.ev t) (lo.map (LX.ev t)) (hi.map (LX.ev t)) (mx.map (LX.ev t)) with
    | some v => some (v, st)
    | none => none
  | .fieldAddr d x => match x.ev t with
    | .ptr o i off => some (.ptr o i (off + d), st)
    | .pin cells off => some (.pin cells (off + d), st)
    | _ => none
  | .field agg off n x => match x.ev t with
    | .agg cs => if off + n ≤ cs.length then
        match ofCells agg ((cs.drop off).take n) with
        | some v => some (v, st)
        | none => none
      else none
    | _ => none
  | .indexAddr size x i => match (i.ev t).asInt with
    | none => none
    | some i => if i < 0 then none else
      match x.ev t with
      | .rs o off len => if i < len then
          match st[o]? with
          | some (.row es) => match es[off + i.toNat]? with
            | some e => if e.length = size then some (.ptr o (off + i.toNat) 0, st) else none
            | none => none
          | _ => none
        else none
      | x => match x.asSl with
        | some es => match es[i.toNat]? with
          | some e => if e.length = size then some (.pin e 0, st) else none
          | none => none
        | none => none
  | .arrAddr len size x i => match (i.ev t).asInt with
    | none => none
    | some i => if 0 ≤ i ∧ i < len then
        match x.ev t with
        | .ptr o k off => some (.ptr o k (off + i.toNat * size), st)
        | .pin cells off => some (.pin cells (off + i.toNat * size), st)
        | _ => none
      else none
  | .index x i => match x.ev t, (i.ev t).asInt with
    | .p (.str s), some i => if 0 ≤ i then
        match s[i.toNat]? with
        | some b => some (.p (.int .u8 b.toNat), st)
        | none => none
      else none
    | _, _ => none
  | .arrIndex agg len size x i => match x.ev t, (i.ev t).asInt with
    | .agg cs, some i => if 0 ≤ i ∧ i < len ∧ i.toNat * size + size ≤ cs.length then
        match ofCells agg ((cs.drop (i.toNat * size)).take size) with
        | some v => some (v, st)
        | none => none
      else none
    | _, _ => none
  | .lookup kk z ok x i => match (i.ev t).toPV with
    | none => none
    | some k => if kk.fits k then
        match mlook st k (x.ev t) with
        | some (some v) => some (if ok then .tup [v, .p (.bool true)] else v, st)
        | some none => some (if ok then .tup [z, .p (.bool false)] else z, st)
        | none => none
      else none
  | .mapUpdate kk m k v => match m.ev t, (k.ev t).toPV with
    | .mp o, some k => if kk.fits k then
        match st[o]? with
        | some (.map kv) => match mset k (v.ev t) kv with
          | some kv' => some (.tup [], st.set o (.map kv'))
          | none => none
        | _ => none
      else none
    | _, _ => none
  | .delete kk m k => match m.ev t, (k.ev t).toPV with
    | .mp o, some k => if kk.fits k then
        match st[o]? with
        | some (.map kv) => match mdel k kv with
          | some kv' => some (.tup [], st.set o (.map kv'))
          | none => none
        | _ => none
      else none
    | _, _ => none
  | .range x => match x.ev t with
    | .p (.str s) => some (.it st.length, st ++ [.siter s 0])
    | _ => none
  | .next x => match x.ev t with
    | .it o => match st[o]? with
      | some (.siter s pos) =>
        if pos < s.length then
          let r := Utf8.decode ⟨s.toArray⟩ pos
          some (.tup [.p (.bool true), .p (.int .i64 pos), .p (.int .i32 r.1)], st.set o (.siter s (pos + r.2)))
        else some (.tup [.p (.bool false)], st)
      | _ => none
    | _ => none
  | .extract x i => match x.ev t with
    | .tup vs => match vs[i]? with
      | some v => some (v, st)
      | none => none
    | _ => none
  | .call f args => callIso call f (args.map (LX.ev t)) st
  | .callz f args => callIso (callFz call) f (args.map (LX.ev t)) st
  | .callv f args => match f.ev t with
    | .fn (.func g) first captured => callIso call g (first ++ args.map (LX.ev t) ++ captured) st
    | _ => none
  | .append str size bytes s x => orA (lappend str size bytes st (s.ev t) (x.ev t)) (rappend size bytes st (s.ev t) (x.ev t))
  | .grow size bytes s x => match s.ev t, x.ev t with
    | .tight [], .p (.int .i64 n) => if n = 0 then some (.tight [], st)
      else if 0 < n ∧ roomy n.toNat bytes = true ∧ n ≤ 9223372036854775807 then some (.gr st.length n.toNat, st ++ [.spare size 0]) else none
    | _, _ => none
  | .slen x => match x.ev t with
    | .p (.str s) => some (.p (.int .i64 s.length), st)
    | _ => none
  | .mlen x => match x.ev t with
    | .p .nilm => some (.p (.int .i64 0), st)
    | .mp o => match st[o]? with
      | some (.map kv) => some (.p (.int .i64 kv.length), st)
      | _ => none
    | _ => none
  | .len x => match x.ev t with
    | .rs _ _ len => some (.p (.int .i64 len), st)
    | x => match x.asSl with
      | some es => some (.p (.int .i64 es.length), st)
      | none => none
  | .cap x => match x.ev t with
    | .tight es => some (.p (.int .i64 es.length), st)
    | _ => none
  | .mx x y => match x.ev t, y.ev t with
    | .p (.int k a), .p (.int _ b) => some (.p (.int k (if b > a then b else a)), st)
    | _, _ => none
  | .mn x y => match x.ev t, y.ev t with
    | .p (.int k a), .p (.int _ b) => some (.p (.int k (if b < a then b else a)), st)
    | _, _ => none
end Go.LS
namespace Go.LS
mutual
def PV.eqb : PV → PV → Bool
  | .bool a, .bool b => a == b
  | .int k a, .int j b => decide (k = j) && decide (a = b)
  | .str a, .str b => decide (a = b)
  | .nilp, .nilp => true
  | .sl a, .sl b => PV.eqbss a b
  | .nilm, .nilm => true
  | .nilf, .nilf => true
  | .nili, .nili => true
  | .ifc t a, .ifc u b => decide (t = u) && PV.eqb a b
  | _, _ => false
def PV.eqbs : List PV → List PV → Bool
  | [], [] => true
  | a :: r, b :: s => PV.eqb a b && PV.eqbs r s
  | _, _ => false
def PV.eqbss : List (List PV) → List (List PV) → Bool
  | [], [] => true
  | a :: r, b :: s => PV.eqbs a b && PV.eqbss r s
  | _, _ => false
end
mutual
theorem PV.eq_of_eqb : ∀ (a b : PV), PV.eqb a b = true → a = b
  | .bool a, b, h => by cases b <;> simp_all [PV.eqb]
  | .int k a, b, h => by cases b <;> simp_all [PV.eqb]
  | .str a, b, h => by cases b <;> simp_all [PV.eqb]
  | .nilp, b, h => by cases b <;> simp_all [PV.eqb]
  | .sl a, b, h => by
    cases b with
    | sl b => simp only [PV.eqb] at h; rw [PV.eq_of_eqbss a b h]
    | _ => simp [PV.eqb] at h
  | .nilm, b, h => by cases b <;> simp_all [PV.eqb]
  | .nilf, b, h => by cases b <;> simp_all [PV.eqb]
  | .nili, b, h => by cases b <;> simp_all [PV.eqb]
  | .ifc t a, b, h => by
    cases b with
    | ifc u b => simp only [PV.eqb, Bool.and_eq_true, decide_eq_true_eq] at h; rw [h.1, PV.eq_of_eqb a b h.2]
    | _ => simp [PV.eqb] at h
theorem PV.eq_of_eqbs : ∀ (a b : List PV), PV.eqbs a b = true → a = b
  | [], b, h => by cases b <;> simp_all [PV.eqbs]
  | a :: r, b, h => by
    cases b with
    | nil => simp [PV.eqbs] at h
    | cons b s => simp only [PV.eqbs, Bool.and_eq_true] at h; rw [PV.eq_of_eqb a b h.1, PV.eq_of_eqbs r s h.2]
theorem PV.eq_of_eqbss : ∀ (a b : List (List PV)), PV.eqbss a b = true → a = b
  | [], b, h => by cases b <;> simp_all [PV.eqbss]
  | a :: r, b, h => by
    cases b with
    | nil => simp [PV.eqbss] at h
    | cons b s => simp only [PV.eqbss, Bool.and_eq_true] at h; rw [PV.eq_of_eqbs a b h.1, PV.eq_of_eqbss r s h.2]
end
mutual
theorem PV.eqb_refl : ∀ (a : PV), PV.eqb a a = true
  | .bool _ | .int _ _ | .str _ | .nilp | .nilm | .nilf | .nili => by simp [PV.eqb]
  | .sl a => by simp [PV.eqb, PV.eqbss_refl a]
  | .ifc t a => by simp [PV.eqb, PV.eqb_refl a]
theorem PV.eqbs_refl : ∀ (a : List PV), PV.eqbs a a = true
  | [] => rfl
  | a :: r => by simp [PV.eqbs, PV.eqb_refl a, PV.eqbs_refl r]
theorem PV.eqbss_refl : ∀ (a : List (List PV)), PV.eqbss a a = true
  | [] => rfl
  | a :: r => by simp [PV.eqbss, PV.eqbs_refl a, PV.eqbss_refl r]
end
mutual
def LV.eqb : LV → LV → Bool
  | .und, .und => true
  | .anyb, .anyb => true
  | .p a, .p b => PV.eqb a b
  | .sl a t f, .sl b u g => PV.eqbss a b && decide (t = u) && decide (f = g)
  | .tight a, .tight b => PV.eqbss a b
  | .gr a b, .gr c d => decide (a = c) && decide (b = d)
  | .ptr o i k, .ptr q j l => decide (o = q) && decide (i = j) && decide (k = l)
  | .pin a k, .pin b l => PV.eqbs a b && decide (k = l)
  | .rs o i k, .rs q j l => decide (o = q) && decide (i = j) && decide (k = l)
  | .mp o, .mp q => decide (o = q)
  | .it o, .it q => decide (o = q)
  | .fn f a b, .fn g c d => decide (f = g) && LV.eqbs a c && LV.eqbs b d
  | .ifc t a, .ifc u b => decide (t = u) && LV.eqb a b
  | .agg a, .agg b => LV.eqbs a b
  | .tup a, .tup b => LV.eqbs a b
  | _, _ => false
def LV.eqbs : List LV → List LV → Bool
  | [], [] => true
  | a :: r, b :: s => LV.eqb a b && LV.eqbs r s
  | _, _ => false
end
mutual
theorem LV.eq_of_eqb : ∀ (a b : LV), LV.eqb a b = true → a = b
  | .und, b, h => by cases b <;> simp_all [LV.eqb]
  | .anyb, b, h => by cases b <;> simp_all [LV.eqb]
  | .p a, b, h => by
    cases b with
    | p b => simp only [LV.eqb] at h; rw [PV.eq_of_eqb a b h]
    | _ => simp [LV.eqb] at h
  | .sl a t f, b, h => by
    cases b with
    | sl b u g => simp only [LV.eqb, Bool.and_eq_true, decide_eq_true_eq] at h; rw [PV.eq_of_eqbss a b h.1.1, h.1.2, h.2]
    | _ => simp [LV.eqb] at h
  | .tight a, b, h => by
    cases b with
    | tight b => simp only [LV.eqb] at h; rw [PV.eq_of_eqbss a b h]
    | _ => simp [LV.eqb] at h
  | .gr a d, b, h => by cases b <;> simp_all [LV.eqb]
  | .ptr o i k, b, h => by cases b <;> simp_all [LV.eqb]
  | .pin a k, b, h => by
    cases b with
    | pin b l => simp only [LV.eqb, Bool.and_eq_true, decide_eq_true_eq] at h; rw [PV.eq_of_eqbs a b h.1, h.2]
    | _ => simp [LV.eqb] at h
  | .rs o i k, b, h => by cases b <;> simp_all [LV.eqb]
  | .mp o, b, h => by cases b <;> simp_all [LV.eqb]
  | .it o, b, h => by cases b <;> simp_all [LV.eqb]
  | .fn f a c, b, h => by
    cases b with
    | fn g d e => simp only [LV.eqb, Bool.and_eq_true, decide_eq_true_eq] at h; rw [h.1.1, LV.eq_of_eqbs a d h.1.2, LV.eq_of_eqbs c e h.2]
    | _ => simp [LV.eqb] at h
  | .ifc t a, b, h => by
    cases b with
    | ifc u b => simp only [LV.eqb, Bool.and_eq_true, decide_eq_true_eq] at h; rw [h.1, LV.eq_of_eqb a b h.2]
    | _ => simp [LV.eqb] at h
  | .agg a, b, h => by
    cases b with
    | agg b => simp only [LV.eqb] at h; rw [LV.eq_of_eqbs a b h]
    | _ => simp [LV.eqb] at h
  | .tup a, b, h => by
    cases b with
    | tup b => simp only [LV.eqb] at h; rw [LV.eq_of_eqbs a b h]
    | _ => simp [LV.eqb] at h
theorem LV.eq_of_eqbs : ∀ (a b : List LV), LV.eqbs a b = true → a = b
  | [], b, h => by cases b <;> simp_all [LV.eqbs]
  | a :: r, b, h => by
    cases b with
    | nil => simp [LV.eqbs] at h
    | cons b s => simp only [LV.eqbs, Bool.and_eq_true] at h; rw [LV.eq_of_eqb a b h.1, LV.eq_of_eqbs r s h.2]
end
mutual
theorem LV.eqb_refl : ∀ (a : LV), LV.eqb a a = true
  | .und => rfl
  | .anyb => rfl
  | .p a => by simp [LV.eqb, PV.eqb_refl a]
  | .sl a _ _ => by simp [LV.eqb, PV.eqbss_refl a]
  | .tight a => by simp [LV.eqb, PV.eqbss_refl a]
  | .ptr _ _ _ | .rs _ _ _ | .mp _ | .it _ | .gr _ _ => by simp [LV.eqb]
  | .pin a _ => by simp [LV.eqb, PV.eqbs_refl a]
  | .fn _ a b => by simp [LV.eqb, LV.eqbs_refl a, LV.eqbs_refl b]
  | .ifc _ a => by simp [LV.eqb, LV.eqb_refl a]
  | .agg a => by simp [LV.eqb, LV.eqbs_refl a]
  | .tup a => by simp [LV.eqb, LV.eqbs_refl a]
theorem LV.eqbs_refl : ∀ (a : List LV), LV.eqbs a a = true
  | [] => rfl
  | a :: r => by simp [LV.eqbs, LV.eqb_refl a, LV.eqbs_refl r]
end
def eqbRow : List (List LV) → List (List LV) → Bool
  | [], [] => true
  | a :: r, b :: s => LV.eqbs a b && eqbRow r s
  | _, _ => false
def eqbMap : List (PV × LV) → List (PV × LV) → Bool
  | [], [] => true
  | a :: r, b :: s => PV.eqb a.1 b.1 && LV.eqb a.2 b.2 && eqbMap r s
  | _, _ => false
def LObj.eqb : LObj → LObj → Bool
  | .dead, .dead => true
  | .row a, .row b => eqbRow a b
  | .spare n m, .spare k l => decide (n = k) && decide (m = l)
  | .map a, .map b => eqbMap a b
  | .siter s p, .siter u q => decide (s = u) && decide (p = q)
  | _, _ => false
def eqbSt : List LObj → List LObj → Bool
  | [], [] => true
  | a :: r, b :: s => LObj.eqb a b && eqbSt r s
  | _, _ => false
theorem eq_of_eqbRow : ∀ {a b : List (List LV)}, eqbRow a b = true → a = b
  | [], b, h => by cases b <;> simp_all [eqbRow]
  | a :: r, b, h => by
    cases b with
    | nil => simp [eqbRow] at h
    | cons b s => simp only [eqbRow, Bool.and_eq_true] at h; rw [LV.eq_of_eqbs a b h.1, eq_of_eqbRow h.2]
theorem eq_of_eqbMap : ∀ {a b : List (PV × LV)}, eqbMap a b = true → a = b
  | [], b, h => by cases b <;> simp_all [eqbMap]
  | a :: r, b, h => by
    cases b with
    | nil => simp [eqbMap] at h
    | cons b s =>
      simp only [eqbMap, Bool.and_eq_true] at h
      rw [Prod.ext (PV.eq_of_eqb _ _ h.1.1) (LV.eq_of_eqb _ _ h.1.2), eq_of_eqbMap h.2]
theorem LObj.eq_of_eqb : ∀ {a b : LObj}, LObj.eqb a b = true → a = b
  | .dead, b, h => by cases b <;> simp_all [LObj.eqb]
  | .row a, b, h => by
    cases b with
    | row b => simp only [LObj.eqb] at h; rw [eq_of_eqbRow h]
    | _ => simp [LObj.eqb] at h
  | .spare n m, b, h => by cases b <;> simp_all [LObj.eqb]
  | .map a, b, h => by
    cases b with
    | map b => simp only [LObj.eqb] at h; rw [eq_of_eqbMap h]
    | _ => simp [LObj.eqb] at h
  | .siter s p, b, h => by cases b <;> simp_all [LObj.eqb]
theorem eq_of_eqbSt : ∀ {a b : List LObj}, eqbSt a b = true → a = b
  | [], b, h => by cases b <;> simp_all [eqbSt]
  | a :: r, b, h => by
    cases b with
    | nil => simp [eqbSt] at h
    | cons b s => simp only [eqbSt, Bool.and_eq_true] at h; rw [LObj.eq_of_eqb h.1, eq_of_eqbSt h.2]
theorem eqbRow_refl : ∀ (a : List (List LV)), eqbRow a a = true
  | [] => rfl
  | a :: r => by simp [eqbRow, LV.eqbs_refl a, eqbRow_refl r]
theorem eqbMap_refl : ∀ (a : List (PV × LV)), eqbMap a a = true
  | [] => rfl
  | a :: r => by simp [eqbMap, PV.eqb_refl, LV.eqb_refl, eqbMap_refl r]
theorem LObj.eqb_refl : ∀ (a : LObj), LObj.eqb a a = true
  | .dead => rfl
  | .row a => by simp [LObj.eqb, eqbRow_refl]
  | .spare _ _ => by simp [LObj.eqb]
  | .map a => by simp [LObj.eqb, eqbMap_refl]
  | .siter _ _ => by simp [LObj.eqb]
theorem eqbSt_refl : ∀ (a : List LObj), eqbSt a a = true
  | [] => rfl
  | a :: r => by simp [eqbSt, LObj.eqb_refl a, eqbSt_refl r]
structure LOper where
  dst : Option Nat
  op : LOp
  guard : Option (Nat × Bool)
  deriving Inhabited
inductive Cls where
  | h | a | c
  deriving DecidableEq, Inhabited
structure DOp where
  cls : Cls
  idx : Nat
  must : List Nat
  op : LOper
  deriving Inhabited
inductive LCode where
  | skip
  | region (ops : List LOper)
  | drawn (ops : List DOp)
  | seq (a b : LCode)
  | cond (x : LX) (a b : LCode)
  | both (x : LX) (a b c : LCode)
  | block (id : Nat) (mask : List Bool) (c : LCode)
  | loop (mask : List Bool) (c : LCode)
  | exit (id : Nat) (mask : List Bool)
  | ret (mask : List Bool)
  | fail
  deriving Inhabited
inductive LRes where
  | tmp (t : Nat)
  | cell (t : Nat) (agg : Bool) (n : Nat)
  deriving Inhabited
structure LFn where
  ntmps : Nat
  results : List LRes
  body : LCode
  deriving Inhabited
structure LProg where
  fns : Nat → Option LFn
  summ : Nat → Option (List LV → List LObj → Option (LV × List LObj))
  weak : Nat → Bool
  wres : Nat → Bool := fun _ => false
inductive LOut where
  | normal
  | exit (id : Nat)
  | ret
  deriving DecidableEq, Inhabited
def gd (t : List LV) : Option (Nat × Bool) → Option Bool
  | none => some true
  | some (j, want) => match t.getD j .und with
    | .p (.bool b) => some (b == want)
    | .tup [] => some false
    | _ => none
def putT (t : List LV) : Option Nat → LV → List LV
  | none, _ => t
  | some d, v => t.set d v
def runOp (call : CallF) (t : List LV) (st : List LObj) (o : LOper) : Option (LV × List LObj) :=
  match gd t o.guard with
  | some true => opStep call t st o.op
  | some false => some (.tup [], st)
  | none => none
def runOps (call : CallF) : List LOper → List LV → List LObj → Option (List LV × List LObj)
  | [], t, st => some (t, st)
  | o :: r, t, st => match runOp call t st o with
    | some (v, st') => runOps call r (putT t o.dst v) st'
    | none => none
def pureV (o : LOp) (v : LV) : Bool :=
  match o with
  | .mv _ | .seq _ _ _ _ | .pick _ _ _ | .build _ _ | .load _ _ _ | .nilChk _ | .bin _ _ _ | .beq _ _ _ | .peq _ _ _ | .nileq _ _ _ | .un _ _ | .cv _ _ | .fn _ _ | .fnm _ _ _ | .iface _ _ | .sslice _ _ _ _ | .slice _ _ _ _ _ | .fieldAddr _ _ | .field _ _ _ _
  | .indexAddr _ _ _ | .arrAddr _ _ _ _ | .index _ _ | .arrIndex _ _ _ _ _ | .lookup _ _ _ _ _ | .extract _ _ | .len _ | .slen _ | .mlen _ | .const _ | .cap _ | .mx _ _ | .mn _ _ => true
  | .mkrow r _ _ _ _ => !r && (match v with | .tight _ => true | .tup [] => true | _ => false)
  | _ => false
def LV.isRs : LV → Bool
  | .rs _ _ _ => true
  | _ => false
def statB (t : List LV) : LOp → Bool
  | .load _ _ _ | .lookup _ _ _ _ _ | .mlen _ => false
  | .slice _ x _ _ _ | .indexAddr _ x _ | .len x => !(x.ev t).isRs
  | .mv _ | .seq _ _ _ _ | .pick _ _ _ | .build _ _ | .nilChk _ | .bin _ _ _ | .beq _ _ _ | .peq _ _ _ | .nileq _ _ _ | .un _ _ | .cv _ _ | .fn _ _ | .fnm _ _ _ | .iface _ _ | .sslice _ _ _ _ | .fieldAddr _ _ | .field _ _ _ _
  | .arrAddr _ _ _ _ | .index _ _ | .arrIndex _ _ _ _ _ | .extract _ _ | .slen _ | .const _ | .cap _ | .mx _ _ | .mn _ _ => true
  | .mkrow _ _ _ _ _ => true
  | _ => false
def heldOk (call : CallF) (st : List LObj) (held : List (DOp × List LV × LV)) : Bool :=
  held.all fun x => match runOp call x.2.1 st x.1.op with
    | some (v, _) => LV.eqb x.2.2 v
    | none => false
def newOk (st st' : List LObj) : Bool :=
  match st'[st.length]? with
  | none => true
  | some (.row _) => true
  | some (.map _) => true
  | _ => false
def runDrawn (call : CallF) : List DOp → List (DOp × List LV × LV) → List LV → List LObj → Option (List LV × List LObj)
  | [], _, t, st => some (t, st)
  | d :: r, held, t, st => match runOp call t st d.op with
    | none => none
    | some (v, st') =>
      match d.cls with
      | .h => if pureV d.op.op v then runDrawn call r (if statB t d.op.op then held else (d, t, v) :: held) (putT t d.op.dst v) st' else none
      | .a => if newOk st st' && heldOk call st' held then runDrawn call r held (putT t d.op.dst v) st' else none
      | .c =>
        let held' := held.filter fun x => !d.must.contains x.1.idx
        if decide (st.length ≤ st'.length) && heldOk call st' held' then runDrawn call r held' (putT t d.op.dst v) st' else none
def kill : List Bool → List LV → List LV
  | true :: m, v :: t => v :: kill m t
  | false :: m, _ :: t => .und :: kill m t
  | _, t => t
def cont2 (r : Option (LOut × List LV × List LObj)) (f : List LV → List LObj → Option (LOut × List LV × List LObj)) : Option (LOut × List LV × List LObj) :=
  match r with
  | some (.normal, t', st') => f t' st'
  | r => r
def both (x y : Option (LOut × List LV × List LObj)) : Option (LOut × List LV × List LObj) :=
  match x, y with
  | some (o1, t1, s1), some (o2, t2, s2) => if o1 = o2 ∧ LV.eqbs t1 t2 = true ∧ eqbSt s1 s2 = true then some (o1, t1, s1) else none
  | _, _ => none
theorem both_eq {x y : Option (LOut × List LV × List LObj)} {r : LOut × List LV × List LObj} (h : both x y = some r) : x = some r ∧ y = some r := by
  unfold both at h
  split at h
  · split at h
    · rename_i hc
      obtain ⟨h1, h2, h3⟩ := hc
      cases h
      rw [h1, LV.eq_of_eqbs _ _ h2, eq_of_eqbSt h3]
      exact ⟨rfl, rfl⟩
    · cases h
  · cases h
def exec (call : CallF) (k : Nat) : Nat → LCode → List LV → List LObj → Option (LOut × List LV × List LObj)
  | 0, _, _, _ => none
  | n + 1, c, t, st => match c with
    | .skip => some (.normal, t, st)
    | .region ops => match runOps call ops t st with
      | some (t', st') => some (.normal, t', st')
      | none => none
    | .drawn ops => match runDrawn call ops [] t st with
      | some (t', st') => some (.normal, t', st')
      | none => none
    | .seq a b => cont2 (exec call k n a t st) (exec call k n b)
    | .both x a b c => match x.ev t with
      | .p (.bool true) => cont2 (exec call k n a t st) (exec call k n c)
      | .p (.bool false) => cont2 (exec call k n b t st) (exec call k n c)
      | .anyb => both (cont2 (exec call k n a t st) (exec call k n c)) (cont2 (exec call k n b t st) (exec call k n c))
      | _ => none
    | .cond x a b => match x.ev t with
      | .p (.bool true) => exec call k n a t st
      | .p (.bool false) => exec call k n b t st
      | .anyb => both (exec call k n a t st) (exec call k n b t st)
      | _ => none
    | .block id mask c => match exec call k n c t st with
      | some (.exit i, t', st') => if i = id then some (.normal, kill mask t', st') else some (.exit i, t', st')
      | some (.normal, t', st') => some (.normal, kill mask t', st')
      | r => r
    | .loop mask c => match gc k (kill mask t) st with
      | some (t', st') => match exec call k n c t' st' with
        | some (.normal, t'', st'') => exec call k n (.loop mask c) t'' st''
        | r => r
      | none => none
    | .exit id mask => some (.exit id, kill mask t, st)
    | .ret mask => some (.ret, kill mask t, st)
    | .fail => none
def evRes (t : List LV) (st : List LObj) : List LRes → Option (List LV)
  | [] => some []
  | .tmp i :: r => match evRes t st r with
    | some l => some (t.getD i .und :: l)
    | none => none
  | .cell i agg n :: r => match (t.getD i .und).ldAt st n with
    | some cs => match ofCells agg cs, evRes t st r with
      | some v, some l => some (v :: l)
      | _, _ => none
    | none => none
def oneRes : List LV → LV
  | [v] => v
  | vs => .tup vs
def runF (lp : LProg) : Nat → CallF
  | 0 => ⟨fun _ _ _ => none, lp.weak⟩
  | n + 1 => .mk (weak := lp.weak) fun f args st =>
    match lp.summ f with
    | some g => g args st
    | none => match lp.fns f with
      | none => none
      | some lf => match exec (runF lp n) st.length n lf.body (wk (lp.weak f) args ++ List.replicate (lf.ntmps - args.length) .und) st with
        | some (.exit _, _, _) => none
        | some (_, t', st') => match evRes t' st' lf.results with
          | some vs => match frz (lp.wres f) st' vs with
            | (vs, st') => match gc st.length vs st' with
              | some (vs', st'') => some (oneRes vs', st'')
              | none => none
          | none => none
        | none => none
theorem runF_weak (lp : LProg) (n : Nat) : (runF lp n).weak = lp.weak := by cases n <;> rfl
end Go.LS
namespace Go.LS
def constCell : Value → Option LV
  | .bool b => some (.p (.bool b))
  | .int k n => some (.p (.int k n))
  | .string s => some (.p (.str s.data.toList))
  | .pointer none => some (.p .nilp)
  | .slice none 0 0 => some (.tight [])
  | .map none => some (.p .nilm)
  | .nilFunc => some (.p .nilf)
  | .nilIface => some (.p .nili)
  | _ => none
def constCells : List Value → Option (List LV)
  | [] => some []
  | v :: r => match constCell v, constCells r with
    | some x, some l => some (x :: l)
    | _, _ => none
def constLV : Value → Option LV
  | .agg cs => match constCells cs.toList with
    | some l => some (.agg l)
    | none => none
  | v => constCell v
def compX : Operand → Option LX
  | .tmp t => some (.tmp t)
  | .const v => match constLV v with
    | some x => some (.const x)
    | none => none
  | .func f => some (.const (.fn (.func f) [] []))
  | .global _ => none
def compXs : List Operand → Option (List LX)
  | [] => some []
  | x :: r => match compX x, compXs r with
    | some y, some l => some (y :: l)
    | _, _ => none
def compO : Option Operand → Option (Option LX)
  | none => some none
  | some x => match compX x with
    | some y => some (some y)
    | none => none
def aggB : TypeDesc → Bool
  | .struct _ | .array _ _ => true
  | _ => false
def tyOf (P : Program) (t : TypeId) : Option (Bool × Nat) :=
  match P.underlying t, P.info? t with
  | some d, some i => some (aggB d, i.size)
  | _, _ => none
def zeroOf (P : Program) (t : TypeId) : Option (List LV) :=
  match P.info? t with
  | some i => match i.zero with
    | some z => constCells z.cells.toList
    | none => none
  | none => none
def compFields (P : Program) (fs : Array Field) : List (Nat × Operand) → Option (List (Nat × Nat × LX))
  | [] => some []
  | (i, x) :: r => match fs[i]?, compX x, compFields P fs r with
    | some f, some y, some l => match P.info? f.type with
      | some info => some ((f.offset, info.size, y) :: l)
      | none => none
    | _, _, _ => none
def compElems (size : Nat) : List (Nat × Operand) → Option (List (Nat × Nat × LX))
  | [] => some []
  | (i, x) :: r => match compX x, compElems size r with
    | some y, some l => some ((i * size, size, y) :: l)
    | _, _ => none
def compParts : List (Nat × Operand) → Option (List (Nat × LX))
  | [] => some []
  | (i, x) :: r => match compX x, compParts r with
    | some y, some l => some ((i, y) :: l)
    | _, _ => none
def allInfo (P : Program) (fs : Array Field) : Bool := fs.toList.all fun f => (P.info? f.type).isSome
def keyOk (P : Program) (t : TypeId) : Option KK :=
  match P.underlying t with
  | some (.int _) => some .int
  | some .string => some .str
  | some .bool => some .bool
  | _ => none
def plainFn (P : Program) (f : FuncId) : Bool :=
  match P.funcs[f]? with
  | some fn => !(fn.name == "runtime.NumGoroutine") && fn.body.isSome
  | none => false
def compCall (P : Program) (c : Call) : Option LOp :=
  match c.callee with
  | .value (.func f) => if plainFn P f then
      match compXs c.args.toList with
      | some xs => some (.call f xs)
      | none => none
    else none
  | .value (.tmp t) => match compXs c.args.toList with
    | some xs => some (.callv (.tmp t) xs)
    | none => none
  | .value _ => none
  | .invoke _ _ => none
  | .builtin b => match b, c.argTypes.toList, c.args.toList with
    | .append, [t, u], [s, x] => match P.underlying t, P.underlying u, compX s, compX x with
      | some (.slice e), some d, some s', some x' => match P.info? e, d with
        | some i, .slice _ => match i.zero with
          | some z => if z.cells.size = i.size then some (.append false i.size i.bytes s' x') else none
          | none => none
        | some i, .string => match i.zero with
          | some z => if z.cells.size = i.size ∧ i.size = 1 ∧ i.bytes = 1 then some (.append true i.size i.bytes s' x') else none
          | none => none
        | some i, .int .i64 => match i.zero with
          | some z => if z.cells.size = i.size ∧ 0 < i.size then some (.grow i.size i.bytes s' x') else none
          | none => none
        | _, _ => none
      | _, _, _, _ => none
    | .len, [t], [x] => match P.underlying t, compX x with
      | some (.array n _), _ => some (.const (.p (.int .i64 n)))
      | some .string, some x' => some (.slen x')
      | some (.slice _), some x' => some (.len x')
      | some (.map _ _), some x' => some (.mlen x')
      | _, _ => none
    | .clear, [t], [x] => match P.underlying t, compX x with
      | some (.slice e), some x' => match zeroOf P e with
        | some z => some (.clearS z x')
        | none => none
      | _, _ => none
    | .cap, [t], [x] => match P.underlying t, compX x with
      | some (.slice _), some x' => some (.cap x')
      | _, _ => none
    | .max, _, [x, y] => match compX x, compX y with
      | some x', some y' => some (.mx x' y')
      | _, _ => none
    | .min, _, [x, y] => match compX x, compX y with
      | some x', some y' => some (.mn x' y')
      | _, _ => none
    | .delete, [t, _], [m, k] => match P.underlying t, compX m, compX k with
      | some (.map kt _), some m', some k' => match keyOk P kt with
        | some kk => some (.delete kk m' k')
        | none => none
      | _, _, _ => none
    | _, _, _ => none
def eqFs (P : Program) : List Field → Option (List (Nat × KK))
  | [] => some []
  | f :: r => match keyOk P f.type, eqFs P r with
    | some kk, some l => if f.name == "_" then none else some ((f.offset, kk) :: l)
    | _, _ => none
def flatEq (P : Program) (t : TypeId) (fs : Array Field) : Option (List (Nat × KK)) :=
  if (P.eqGuardType P.depth t == false) && (P.stoodInHeld t == false) then eqFs P fs.toList else none
def compNil (P : Program) (op : BinOp) (t : TypeId) (x y : Operand) : Option LOp :=
  match op, compX x with
  | .eql, some x' => match P.underlying t, y with
    | some (.slice _), .const (.slice none 0 0) => some (.nileq false .slice x')
    | some (.map _ _), .const (.map none) => some (.nileq false .map x')
    | some (.func _ _ _), .const .nilFunc => some (.nileq false .func x')
    | some (.interface _), .const .nilIface => some (.nileq false .iface x')
    | _, _ => none
  | .neq, some x' => match P.underlying t, y with
    | some (.slice _), .const (.slice none 0 0) => some (.nileq true .slice x')
    | some (.map _ _), .const (.map none) => some (.nileq true .map x')
    | some (.func _ _ _), .const .nilFunc => some (.nileq true .func x')
    | some (.interface _), .const .nilIface => some (.nileq true .iface x')
    | _, _ => none
  | _, _ => none
def toR (r : Bool) (o : Option LOp) : Option LOp :=
  match o with
  | some (.append false a b s x) => if r then some (.appendR a b s x) else some (.append false a b s x)
  | some (.call f xs) => if r then some (.callz f xs) else some (.call f xs)
  | o => o
theorem toR_inv {r : Bool} {o : Option LOp} {p : LOp} (h : toR r o = some p) : o = some p ∨ (∃ a b s x, o = some (.append false a b s x) ∧ p = .appendR a b s x) ∨ ∃ f xs, o = some (.call f xs) ∧ p = .callz f xs := by
  unfold toR at h
  split at h
  · split at h
    · cases h; exact .inr (.inl ⟨_, _, _, _, rfl, rfl⟩)
    · exact .inl h
  · split at h
    · cases h; exact .inr (.inr ⟨_, _, rfl, rfl⟩)
    · exact .inl h
  · exact .inl h
def compOp0 (P : Program) (r : Bool) (op : Op) : Option LOp :=
  match op with
  | .move x | .assign x => match compX x with
    | some y => some (.mv y)
    | none => none
  | .pick c a b => match compX c, compX a, compX b with
    | some c, some a, some b => some (.pick c a b)
    | _, _, _ => none
  | .alloc e => match zeroOf P e with
    | some z => some (.alloc z)
    | none => none
  | .box _ x => match compX x with
    | some y => some (.box y)
    | none => none
  | .build t parts => match P.underlying t, zeroOf P t with
    | some (.struct fs), some z => if allInfo P fs then
        match compFields P fs parts.toList with
        | some ps => some (.build z ps)
        | none => none
      else none
    | some (.array _ e), some z => match P.info? e with
      | some i => match compElems i.size parts.toList with
        | some ps => some (.build z ps)
        | none => none
      | none => none
    | _, _ => none
  | .buildSlice t len parts => match P.underlying t with
    | some (.slice e) => match P.info? e, zeroOf P e, compParts parts.toList with
      | some i, some z, some ps => if 0 < i.size ∧ len * i.size ≤ 16777216 ∧ z.length = i.size then some (.mkrow r i.size len z ps) else none
      | _, _, _ => none
    | _ => none
  | .load t a => match tyOf P t, compX a with
    | some (agg, n), some x => if agg = true ∨ n = 1 then some (.load agg n x) else none
    | _, _ => none
  | .store t a v => match tyOf P t, compX a, compX v with
    | some (_, n), some x, some y => some (.store n x y)
    | _, _, _ => none
  | .nilCheck x => match compX x with
    | some y => some (.nilChk y)
    | none => none
  | .binOp op t x y _ => match P.underlying t, compX x, compX y with
    | some (.int _), some x, some y => some (.bin op x y)
    | some .string, some x, some y => some (.bin op x y)
    | some .bool, some x, some y => match op with
      | .eql => some (.beq false x y)
      | .neq => some (.beq true x y)
      | _ => none
    | some (.pointer _), some x, some y => match op with
      | .eql => some (.peq false x y)
      | .neq => some (.peq true x y)
      | _ => none
    | some (.struct fs), some x, some y => match flatEq P t fs with
      | some l => match op with
        | .eql => some (.seq false l x y)
        | .neq => some (.seq true l x y)
        | _ => none
      | none => none
    | _, _, _ => compNil P op t x y
  | .unOp op _ x => match compX x with
    | some y => some (.un op y)
    | none => none
  | .convert src dst x => match P.underlying src, P.underlying dst, compX x with
    | some (.int _), some (.int k), some y => some (.cv (.int k) y)
    | some .string, some .string, some y => some (.cv .str y)
    | some .string, some (.slice e), some y => match P.underlying e with
      | some (.int .u8) => if (P.info? e).isSome then some (.cv .s2b y) else none
      | _ => none
    | some (.slice e), some .string, some y => match P.underlying e with
      | some (.int .u8) => some (.cv .b2s y)
      | _ => none
    | some (.slice _), some (.slice e), some y => if src == dst then
        match P.underlying e with
        | some (.int .u8) => some (.retire y)
        | _ => none
      else none
    | _, _, _ => none
  | .makeFunc (.func f) first captured => if first.size = 0 then
      match compXs captured.toList with
      | some cs => some (.fn f cs)
      | none => none
    else match compXs first.toList, compXs captured.toList with
      | some fs, some cs => some (.fnm f fs cs)
      | _, _ => none
  | .makeInterface t x => match P.underlying t, compX x with
    | some (.interface _), _ => none
    | some _, some y => some (.iface t y)
    | _, _ => none
  | .makeMap _ none => some .mkmap
  | .makeSlice t l c => match P.underlying t, compX l, compX c with
    | some (.slice e), some l, some c => match P.info? e, zeroOf P e with
      | some i, some z => some (.mkslice i.size i.bytes z l c)
      | _, _ => none
    | _, _, _ => none
  | .slice t x lo hi mx => match P.underlying t, compX x, compO lo, compO hi, compO mx with
    | some .string, some x, some lo, some hi, some mx => some (.sslice x lo hi mx)
    | some (.slice e), some x, some lo, some hi, some mx => match P.info? e with
      | some inf => some (.slice inf.size x lo hi mx)
      | none => none
    | _, _, _, _, _ => none
  | .fieldAddr s x f => match P.underlying s, compX x with
    | some (.struct fs), some y => match fs[f]? with
      | some fd => match P.info? fd.type with
        | some i => if i.size = 0 then none else some (.fieldAddr fd.offset y)
        | none => none
      | none => none
    | _, _ => none
  | .field t x f => match P.underlying t, compX x with
    | some (.struct fs), some y => match fs[f]? with
      | some fd => match tyOf P fd.type with
        | some (agg, n) => if agg = true ∨ n = 1 then some (.field agg fd.offset n y) else none
        | none => none
      | none => none
    | _, _ => none
  | .indexAddr t x i => match P.underlying t, compX x, compX i with
    | some (.slice e), some x, some i => match P.info? e with
      | some inf => if 0 < inf.size then some (.indexAddr inf.size x i) else none
      | none => none
    | some (.array n e), some x, some i => match P.info? e with
      | some inf => if 0 < inf.size then some (.arrAddr n inf.size x i) else none
      | none => none
    | _, _, _ => none
  | .index t x i => match P.underlying t, compX x, compX i with
    | some .string, some x, some i => some (.index x i)
    | some (.array n e), some x, some i => match tyOf P e with
      | some (agg, s) => if agg = true ∨ s = 1 then some (.arrIndex agg n s x i) else none
      | none => none
    | _, _, _ => none
  | .lookup t x i ok => match P.underlying t, compX x, compX i with
    | some (.map k e), some x, some i => match P.info? e with
      | some inf => match inf.zero with
        | some z => match constLV z with
          | some zv => (match keyOk P k with
          | some kk => some (.lookup kk zv ok x i)
          | none => none)
          | none => none
        | none => none
      | none => none
    | _, _, _ => none
  | .mapUpdate t m k v | .insert t m k v => match P.underlying t, compX m, compX k, compX v with
    | some (.map kt _), some m, some k, some v => match keyOk P kt with
      | some kk => some (.mapUpdate kk m k v)
      | none => none
    | _, _, _, _ => none
  | .range t x => match P.underlying t, compX x with
    | some .string, some y => some (.range y)
    | _, _ => none
  | .next x true => match compX x with
    | some y => some (.next y)
    | none => none
  | .extract x i => match compX x with
    | some y => some (.extract y i)
    | none => none
  | .call c => toR r (compCall P c)
  | _ => none
def compOp (P : Program) (r : Bool) (op : Op) : Option LOp :=
  match compOp0 P r op with
  | some l => some l
  | none => some .fail
end Go.LS
set_option linter.unusedVariables false
namespace Go.LS
def rowOk (G : Gh) (arr : Array Value) (es : List (List LV)) (size : Nat) : Prop :=
  (∀ e ∈ es, e.length = size) ∧ ∀ i j c, at2 es i j = some c → ∃ u, arr[i * size + j]? = some u ∧ VL G c u ∧ u.oneCell' = true
def mapOk (G : Gh) (es : Array MapEntry) (kv : List (PV × LV)) : Prop :=
  es.size = kv.length ∧ ∀ (i : Nat) k v, kv[i]? = some (k, v) → ∃ e, es[i]? = some e ∧ VP G.F k e.key ∧ VL G v e.val
def Stamps (es : Array MapEntry) (clock : Nat) : Prop := (∀ x ∈ es.toList, x.born < clock) ∧ (es.toList.map (·.born)).Nodup
def Owns (G : Gh) (st : List LObj) (o b : Nat) : Prop :=
  match st[o]? with
  | some (.row _) => ∃ size n, G.loc o = some (.row b size n)
  | some (.map _) => G.loc o = some (.map b)
  | some (.siter _ _) => G.loc o = some (.iter b)
  | some (.spare _ hw) => ∃ s, G.hist o hw = some s ∧ s.blk = b
  | _ => False
def isSpare (st : List LObj) (o : Nat) : Prop := ∃ n hw, st[o]? = some (.spare n hw)
structure WR (G : Gh) (st : List LObj) (w : World) : Prop where
  fr : ∀ b o v, G.F b o = some v → w.cell? ⟨b, o, none⟩ = some v
  dom : ∀ o, st.length ≤ o → G.loc o = none ∧ ∀ f, G.hist o f = none
  row : ∀ o es, st[o]? = some (.row es) → ∀ l, G.loc o = some l → ∃ blk size n, l = .row blk size n ∧
    ∃ arr e, w.heap[blk]? = some (.cells arr e (0, 0)) ∧ arr.size = n * size ∧ es.length ≤ n ∧ rowOk G arr es size
  map : ∀ o kv, st[o]? = some (.map kv) → ∀ l, G.loc o = some l → ∃ blk, l = .map blk ∧ ∃ es clock, w.heap[blk]? = some (.map es clock) ∧ mapOk G es kv ∧ Stamps es clock
  iter : ∀ o s pos, st[o]? = some (.siter s pos) → ∀ l, G.loc o = some l → ∃ blk, l = .iter blk ∧ w.heap[blk]? = some (.stringIter ⟨s.toArray⟩ pos)
  spare : ∀ o size hw, st[o]? = some (.spare size hw) → (∀ f, hw < f → G.hist o f = none) ∧ ∀ s, G.hist o hw = some s →
    s.size = size ∧ (∃ arr e, w.heap[s.blk]? = some (.cells arr e (0, 0)) ∧ arr.size = s.endo + s.nsp * size) ∧ ∀ off, s.endo ≤ off → G.F s.blk off = none
  uniq : ∀ o o' b, Owns G st o b → Owns G st o' b → o = o'
  ownF : ∀ o b, Owns G st o b → ¬ isSpare st o → ∀ off, G.F b off = none
  kind : ∀ o x, st[o]? = some x → (∀ n hw, x ≠ .spare n hw) → ∀ f, G.hist o f = none
structure Ext (G : Gh) (st : List LObj) (w : World) (G' : Gh) (st' : List LObj) (w' : World) : Prop where
  le : G.le G'
  os : w'.os = w.os
  tape : w'.tape = w.tape
  output : w'.output = w.output
  hsz : w.heap.size ≤ w'.heap.size
  unch : ∀ b, b < w.heap.size → (∀ o, ¬ Owns G st o b) → w'.heap[b]? = w.heap[b]?
  own : ∀ o b, Owns G' st' o b → b < w.heap.size → ∃ o', Owns G st o' b
  newF : ∀ b off v, G'.F b off = some v → b < w.heap.size → (∀ o, ¬ Owns G st o b) → G.F b off = some v
  pend : ∀ o, o < st.length → G.loc o = none → (∀ f, G.hist o f = none) → st'[o]? = st[o]? ∧ G'.loc o = none ∧ ∀ f, G'.hist o f = none
  len : st.length ≤ st'.length
structure Ext0 (G : Gh) (st : List LObj) (w : World) (G' : Gh) (st' : List LObj) (w' : World) : Prop where
  le : G.le G'
  os : w'.os = w.os
  tape : w'.tape = w.tape
  output : w'.output = w.output
  hsz : w.heap.size ≤ w'.heap.size
  unch : ∀ b, b < w.heap.size → (∀ o, ¬ Owns G st o b) → w'.heap[b]? = w.heap[b]?
  own : ∀ o b, Owns G' st' o b → b < w.heap.size → ∃ o', Owns G st o' b
  newF : ∀ b off v, G'.F b off = some v → b < w.heap.size → (∀ o, ¬ Owns G st o b) → G.F b off = some v
theorem Ext.to0 {G G' : Gh} {st st' : List LObj} {w w' : World} (h : Ext G st w G' st' w') : Ext0 G st w G' st' w' :=
  ⟨h.le, h.os, h.tape, h.output, h.hsz, h.unch, h.own, h.newF⟩
theorem Ext0.trans {A B C : Gh} {s1 s2 s3 : List LObj} {w1 w2 w3 : World} (h : Ext0 A s1 w1 B s2 w2) (k : Ext0 B s2 w2 C s3 w3) : Ext0 A s1 w1 C s3 w3 where
  le := h.le.trans k.le
  os := k.os.trans h.os
  tape := k.tape.trans h.tape
  output := k.output.trans h.output
  hsz := Nat.le_trans h.hsz k.hsz
  unch b hb ho := (k.unch b (Nat.lt_of_lt_of_le hb h.hsz) fun o x => let ⟨o', y⟩ := h.own o b x hb; ho o' y).trans (h.unch b hb ho)
  own o b x hb := let ⟨o', y⟩ := k.own o b x (Nat.lt_of_lt_of_le hb h.hsz); h.own o' b y hb
  newF b off v x hb ho := h.newF b off v (k.newF b off v x (Nat.lt_of_lt_of_le hb h.hsz) fun o x => let ⟨o', y⟩ := h.own o b x hb; ho o' y) hb ho
theorem Ext.refl (G : Gh) (st : List LObj) (w : World) : Ext G st w G st w :=
  ⟨.refl G, rfl, rfl, rfl, Nat.le_refl _, fun _ _ _ => rfl, fun o b h _ => ⟨o, h⟩, fun _ _ _ h _ _ => h, fun _ _ h k => ⟨rfl, h, k⟩, Nat.le_refl _⟩
theorem Ext.trans {A B C : Gh} {s1 s2 s3 : List LObj} {w1 w2 w3 : World} (h : Ext A s1 w1 B s2 w2) (k : Ext B s2 w2 C s3 w3) : Ext A s1 w1 C s3 w3 where
  le := h.le.trans k.le
  os := k.os.trans h.os
  tape := k.tape.trans h.tape
  output := k.output.trans h.output
  hsz := Nat.le_trans h.hsz k.hsz
  unch b hb ho := (k.unch b (Nat.lt_of_lt_of_le hb h.hsz) fun o x => let ⟨o', y⟩ := h.own o b x hb; ho o' y).trans (h.unch b hb ho)
  own o b x hb := let ⟨o', y⟩ := k.own o b x (Nat.lt_of_lt_of_le hb h.hsz); h.own o' b y hb
  newF b off v x hb ho := h.newF b off v (k.newF b off v x (Nat.lt_of_lt_of_le hb h.hsz) fun o x => let ⟨o', y⟩ := h.own o b x hb; ho o' y) hb ho
  pend o ho h1 h2 :=
    let ⟨a, b, c⟩ := h.pend o ho h1 h2
    let ⟨d, e, f⟩ := k.pend o (Nat.lt_of_lt_of_le ho h.len) b c
    ⟨d.trans a, e, f⟩
  len := Nat.le_trans h.len k.len
theorem lt_of_heap {w : World} {b : Nat} {o : Obj} (h : w.heap[b]? = some o) : b < w.heap.size := (Array.getElem?_eq_some_iff.1 h).1
theorem WR.fr_lt {G : Gh} {st : List LObj} {w : World} (h : WR G st w) {b o : Nat} {v : Value} (hf : G.F b o = some v) : b < w.heap.size :=
  World.block_lt_of_cell? w ⟨b, o, none⟩ (h.fr _ _ _ hf)
theorem WR.owns_lt {G : Gh} {st : List LObj} {w : World} (h : WR G st w) {o b : Nat} (ho : Owns G st o b) : b < w.heap.size := by
  unfold Owns at ho
  split at ho
  · rename_i es hs
    obtain ⟨size, n, hl⟩ := ho
    obtain ⟨blk, sz, n', e, arr, ty, hb, _⟩ := h.row _ _ hs _ hl
    cases e
    exact lt_of_heap hb
  · rename_i kv hs
    obtain ⟨blk, e, es, c, hb, _⟩ := h.map _ _ hs _ ho
    cases e
    exact lt_of_heap hb
  · rename_i s pos hs
    obtain ⟨blk, e, hb⟩ := h.iter _ _ _ hs _ ho
    cases e
    exact lt_of_heap hb
  · rename_i n hw hs
    obtain ⟨s, hl, rfl⟩ := ho
    obtain ⟨_, ⟨arr, ty, hb, _⟩, _⟩ := (h.spare _ _ _ hs).2 _ hl
    exact lt_of_heap hb
  · exact ho.elim
theorem WR.of_heap {G : Gh} {st : List LObj} {w w' : World} (h : WR G st w) (e : w'.heap = w.heap) : WR G st w' where
  fr b o v x := by have := h.fr b o v x; simpa [World.cell?, e] using this
  dom := h.dom
  row o es a l b := by rw [e]; exact h.row o es a l b
  map o es a l b := by rw [e]; exact h.map o es a l b
  iter o s p a l b := by rw [e]; exact h.iter o s p a l b
  spare o n hw a := by rw [e]; exact h.spare o n hw a
  uniq := h.uniq
  ownF := h.ownF
  kind := h.kind
theorem Ext.of_heap {G : Gh} {st : List LObj} {w w' : World} (e : w'.heap = w.heap) (h1 : w'.os = w.os) (h2 : w'.tape = w.tape) (h3 : w'.output = w.output) : Ext G st w G st w' :=
  ⟨.refl G, h1, h2, h3, by rw [e]; exact Nat.le_refl _, fun _ _ _ => by rw [e], fun o b h _ => ⟨o, h⟩, fun _ _ _ h _ _ => h, fun _ _ h k => ⟨rfl, h, k⟩, Nat.le_refl _⟩
theorem rowOk.mono {G G' : Gh} (hG : G.le G') {arr : Array Value} {es : List (List LV)} {size : Nat} (h : rowOk G arr es size) : rowOk G' arr es size :=
  ⟨h.1, fun i j c hc => let ⟨u, a, b, d⟩ := h.2 i j c hc; ⟨u, a, b.mono hG, d⟩⟩
theorem mapOk.mono {G G' : Gh} (hG : G.le G') {es : Array MapEntry} {kv : List (PV × LV)} (h : mapOk G es kv) : mapOk G' es kv :=
  ⟨h.1, fun i k v hc => let ⟨u, a, b, d⟩ := h.2 i k v hc; ⟨u, a, b.mono hG.F, d.mono hG⟩⟩
theorem Stamps.modify {es : Array MapEntry} {c : Nat} (h : Stamps es c) (j : Nat) (f : MapEntry → MapEntry) (hf : ∀ e, (f e).born = e.born) : Stamps (es.modify j f) c := by
  have e : (es.modify j f).toList.map (·.born) = es.toList.map (·.born) := by
    apply List.ext_getElem?
    intro i
    simp only [List.getElem?_map, Array.getElem?_toList, Array.getElem?_modify]
    split <;> cases es[i]? <;> simp [hf]
  refine ⟨fun x hx => ?_, by rw [e]; exact h.2⟩
  have : x.born ∈ (es.modify j f).toList.map (·.born) := List.mem_map.2 ⟨x, hx, rfl⟩
  rw [e] at this
  obtain ⟨y, hy, h2⟩ := List.mem_map.1 this
  rw [← h2]
  exact h.1 y hy
theorem Stamps.push {es : Array MapEntry} {c : Nat} (h : Stamps es c) (x : MapEntry) (hx : x.born = c) : Stamps (es.push x) (c + 1) := by
  constructor
  · intro y hy
    simp only [Array.toList_push, List.mem_append, List.mem_singleton] at hy
    rcases hy with hy | rfl
    · have := h.1 y hy; omega
    · omega
  · simp only [Array.toList_push, List.map_append, List.map_cons, List.map_nil]
    rw [List.nodup_append]
    refine ⟨h.2, by simp, ?_⟩
    intro a ha b hb
    simp only [List.mem_singleton] at hb
    obtain ⟨y, hy, rfl⟩ := List.mem_map.1 ha
    have := h.1 y hy
    omega
theorem Stamps.erase {es : Array MapEntry} {c : Nat} (h : Stamps es c) (j : Nat) : Stamps (es.eraseIdxIfInBounds j) c := by
  unfold Array.eraseIdxIfInBounds
  split
  · have hs : (es.eraseIdx j).toList.Sublist es.toList := by simp [List.eraseIdx_sublist]
    exact ⟨fun x hx => h.1 x (hs.subset hx), h.2.sublist (hs.map _)⟩
  · exact h
theorem Stamps.nil (c : Nat) : Stamps #[] c := ⟨by simp, by simp⟩
def Gh.addLoc (G : Gh) (o : Nat) (l : Loc) : Gh := { G with loc := fun q => if q = o then some l else G.loc q }
def Gh.addHist (G : Gh) (t f : Nat) (s : Sp) : Gh := { G with hist := fun q g => if q = t ∧ g = f then some s else G.hist q g }
def Gh.addF (G : Gh) (b : Nat) (h : Nat → Option Value) : Gh := { G with F := fun c o => match G.F c o with | some v => some v | none => if c = b then h o else none }
theorem Gh.le_addLoc {G : Gh} {o : Nat} {l : Loc} (h : G.loc o = none) : G.le (G.addLoc o l) :=
  ⟨fun _ _ _ h => h, fun q k hq => by unfold Gh.addLoc; dsimp only; split
                                      · subst_vars; rw [h] at hq; cases hq
                                      · exact hq, fun _ _ _ h => h⟩
theorem Gh.le_addHist {G : Gh} {t f : Nat} {s : Sp} (h : G.hist t f = none) : G.le (G.addHist t f s) :=
  ⟨fun _ _ _ h => h, fun _ _ h => h, fun q g k hq => by unfold Gh.addHist; dsimp only; split
                                                        · rename_i e; rw [e.1, e.2, h] at hq; cases hq
                                                        · exact hq⟩
theorem Gh.le_addF (G : Gh) (b : Nat) (f : Nat → Option Value) : G.le (G.addF b f) :=
  ⟨fun c o v h => by simp [Gh.addF, h], fun _ _ h => h, fun _ _ _ h => h⟩
theorem Gh.addF_other {G : Gh} {b c o : Nat} {f : Nat → Option Value} (h : c ≠ b) : (G.addF b f).F c o = G.F c o := by
  simp only [Gh.addF, if_neg h]; cases G.F c o <;> rfl
theorem get_snoc_lt {α : Type} {l : List α} {x : α} {i : Nat} (h : i < l.length) : (l ++ [x])[i]? = l[i]? := List.getElem?_append_left h
theorem get_snoc {α : Type} {l : List α} {x : α} : (l ++ [x])[l.length]? = some x := by simp
theorem get_snoc_cases {α : Type} {l : List α} {x y : α} {i : Nat} (h : (l ++ [x])[i]? = some y) : (i < l.length ∧ l[i]? = some y) ∨ (i = l.length ∧ x = y) := by
  rcases Nat.lt_trichotomy i l.length with h' | h' | h'
  · rw [get_snoc_lt h'] at h; exact .inl ⟨h', h⟩
  · subst h'; rw [get_snoc] at h; exact .inr ⟨rfl, Option.some.inj h⟩
  · rw [List.getElem?_eq_none (by simp; omega)] at h; cases h
theorem Owns.snoc {G G' : Gh} {st : List LObj} {x : LObj} {o b : Nat} (h : o < st.length) (hl : G'.loc o = G.loc o) (hh : ∀ f, G'.hist o f = G.hist o f) :
    Owns G' (st ++ [x]) o b ↔ Owns G st o b := by
  unfold Owns
  rw [get_snoc_lt h, hl]
  simp only [hh]
theorem Owns.lt {G : Gh} {st : List LObj} {o b : Nat} (h : Owns G st o b) : o < st.length := by
  rcases Nat.lt_or_ge o st.length with h' | h'
  · exact h'
  · unfold Owns at h; rw [List.getElem?_eq_none h'] at h; exact h.elim
theorem heap_old {w : World} {o : Obj} {b : Nat} (h : b < w.heap.size) : (w.alloc o).heap[b]? = w.heap[b]? := heap_alloc_old w o b h
theorem cell_old {w : World} {o : Obj} {b off : Nat} (h : b < w.heap.size) : (w.alloc o).cell? ⟨b, off, none⟩ = w.cell? ⟨b, off, none⟩ := World.cell?_alloc_lt w o _ h
theorem WR.newObj {G : Gh} {st : List LObj} {w : World} (h : WR G st w) (x : LObj) (l : Loc) (ob : Obj)
    (hx : (∃ es size n arr e, x = .row es ∧ l = .row w.heap.size size n ∧ ob = .cells arr e ∧ arr.size = n * size ∧ es.length ≤ n ∧ rowOk G arr es size) ∨
      (∃ kv es clock, x = .map kv ∧ l = .map w.heap.size ∧ ob = .map es clock ∧ mapOk G es kv ∧ Stamps es clock) ∨
      (∃ s pos, x = .siter s pos ∧ l = .iter w.heap.size ∧ ob = .stringIter ⟨s.toArray⟩ pos)) :
    WR (G.addLoc st.length l) (st ++ [x]) (w.alloc ob) ∧ Ext G st w (G.addLoc st.length l) (st ++ [x]) (w.alloc ob) := by
  have hle : G.le (G.addLoc st.length l) := Gh.le_addLoc (h.dom _ (Nat.le_refl _)).1
  have hloc : ∀ o, o < st.length → (G.addLoc st.length l).loc o = G.loc o := fun o ho => by simp [Gh.addLoc, Nat.ne_of_lt ho]
  have hhist : ∀ o f, (G.addLoc st.length l).hist o f = G.hist o f := fun _ _ => rfl
  have hnew : (G.addLoc st.length l).loc st.length = some l := by simp [Gh.addLoc]
  have hns : ¬ isSpare (st ++ [x]) st.length := by
    rintro ⟨n, hw, e⟩
    rw [get_snoc] at e
    rcases hx with ⟨_, _, _, _, _, rfl, _⟩ | ⟨_, _, _, rfl, _⟩ | ⟨_, _, rfl, _⟩ <;> cases e
  have hon : ∀ b, Owns (G.addLoc st.length l) (st ++ [x]) st.length b → b = w.heap.size := by
    intro b hb
    unfold Owns at hb
    rw [get_snoc, hnew] at hb
    rcases hx with ⟨_, _, _, _, _, rfl, rfl, _⟩ | ⟨_, _, _, rfl, rfl, _⟩ | ⟨_, _, rfl, rfl, _⟩ <;> simp at hb
    · exact hb.symm
    · exact hb.symm
    · exact hb.symm
  have hoo : ∀ o b, Owns (G.addLoc st.length l) (st ++ [x]) o b → (o < st.length ∧ Owns G st o b) ∨ (o = st.length ∧ b = w.heap.size) := by
    intro o b ho
    have := Owns.lt ho
    simp at this
    rcases Nat.lt_or_ge o st.length with h' | h'
    · exact .inl ⟨h', (Owns.snoc h' (hloc o h') (fun f => hhist o f)).1 ho⟩
    · obtain rfl : o = st.length := by omega
      exact .inr ⟨rfl, hon b ho⟩
  refine ⟨⟨?_, ?_, ?_, ?_, ?_, ?_, ?_, ?_, fun o y ho hy f => ?_⟩, ⟨hle, rfl, rfl, rfl, by simp, ?_, ?_, ?_, ?_, by simp⟩⟩
  rotate_left 8
  · rw [hhist]
    rcases get_snoc_cases ho with ⟨_, ho⟩ | ⟨rfl, _⟩
    · exact h.kind o y ho hy f
    · exact (h.dom _ (Nat.le_refl _)).2 f
  rotate_left 4
  · intro b o v hv
    rw [cell_old (h.fr_lt hv)]
    exact h.fr b o v hv
  · intro o ho
    simp at ho
    exact ⟨by rw [show (G.addLoc st.length l).loc o = G.loc o by simp [Gh.addLoc, show o ≠ st.length by omega]]; exact (h.dom o (by omega)).1, (h.dom o (by omega)).2⟩
  · intro o es ho l' hl'
    rcases get_snoc_cases ho with ⟨h', ho⟩ | ⟨rfl, rfl⟩
    · rw [hloc o h'] at hl'
      obtain ⟨blk, size, n, e, arr, ty, hb, r⟩ := h.row o es ho l' hl'
      exact ⟨blk, size, n, e, arr, ty, by rw [heap_old (lt_of_heap hb)]; exact hb, r.1, r.2.1, r.2.2.mono hle⟩
    · rw [hnew] at hl'
      cases hl'
      rcases hx with ⟨es', size, n, arr, e, hx, rfl, rfl, h1, h2, h3⟩ | ⟨_, _, _, hx, _⟩ | ⟨_, _, hx, _⟩
      · cases hx
        exact ⟨_, size, n, rfl, arr, e, heap_alloc_new w _, h1, h2, h3.mono hle⟩
      · cases hx
      · cases hx
  · intro o kv ho l' hl'
    rcases get_snoc_cases ho with ⟨h', ho⟩ | ⟨rfl, rfl⟩
    · rw [hloc o h'] at hl'
      obtain ⟨blk, e, es, c, hb, r⟩ := h.map o kv ho l' hl'
      exact ⟨blk, e, es, c, by rw [heap_old (lt_of_heap hb)]; exact hb, ⟨r.1.mono hle, r.2⟩⟩
    · rw [hnew] at hl'
      cases hl'
      rcases hx with ⟨_, _, _, _, _, hx, _⟩ | ⟨kv', es, c, hx, rfl, rfl, h3⟩ | ⟨_, _, hx, _⟩
      · cases hx
      · cases hx
        exact ⟨_, rfl, es, c, heap_alloc_new w _, ⟨h3.1.mono hle, h3.2⟩⟩
      · cases hx
  · intro o s pos ho l' hl'
    rcases get_snoc_cases ho with ⟨h', ho⟩ | ⟨rfl, rfl⟩
    · rw [hloc o h'] at hl'
      obtain ⟨blk, e, hb⟩ := h.iter o s pos ho l' hl'
      exact ⟨blk, e, by rw [heap_old (lt_of_heap hb)]; exact hb⟩
    · rw [hnew] at hl'
      cases hl'
      rcases hx with ⟨_, _, _, _, _, hx, _⟩ | ⟨_, _, _, hx, _⟩ | ⟨_, _, hx, rfl, rfl⟩
      · cases hx
      · cases hx
      · cases hx
        exact ⟨_, rfl, heap_alloc_new w _⟩
  · intro o n hw ho
    rcases get_snoc_cases ho with ⟨h', ho⟩ | ⟨rfl, rfl⟩
    · obtain ⟨h1, h2⟩ := h.spare o n hw ho
      refine ⟨h1, fun s hs => ?_⟩
      obtain ⟨a, ⟨arr, e, hb, hz⟩, hf⟩ := h2 s hs
      exact ⟨a, ⟨arr, e, by rw [heap_old (lt_of_heap hb)]; exact hb, hz⟩, hf⟩
    · exact (hns ⟨n, hw, ho⟩).elim
  · intro o o' b ho ho'
    rcases hoo o b ho with ⟨h1, h2⟩ | ⟨rfl, rfl⟩ <;> rcases hoo o' _ ho' with ⟨h3, h4⟩ | ⟨rfl, h5⟩
    · exact h.uniq o o' b h2 h4
    · have := h.owns_lt h2; omega
    · have := h.owns_lt h4; omega
    · rfl
  · intro o b ho hn off
    rcases hoo o b ho with ⟨h1, h2⟩ | ⟨rfl, rfl⟩
    · exact h.ownF o b h2 (fun ⟨n, hw, e⟩ => hn ⟨n, hw, by rw [get_snoc_lt h1]; exact e⟩) off
    · cases hf : (G.addLoc st.length l).F w.heap.size off with
      | none => rfl
      | some v => have := h.fr_lt (show G.F w.heap.size off = some v from hf); omega
  · intro b hb _; exact heap_old hb
  · intro o b ho hb
    rcases hoo o b ho with ⟨h1, h2⟩ | ⟨rfl, rfl⟩
    · exact ⟨o, h2⟩
    · omega
  · intro b off v hv _ _; exact hv
  · intro o ho h1 h2
    exact ⟨get_snoc_lt ho, by rw [hloc o ho]; exact h1, h2⟩
theorem WR.newSpare {G : Gh} {st : List LObj} {w : World} (h : WR G st w) (arr : Array Value) (e : TypeId) (size k nsp hw : Nat)
    (hz : arr.size = k + nsp * size) :
    WR ((G.addF w.heap.size fun o => if o < k then arr[o]? else none).addHist st.length hw ⟨w.heap.size, k, nsp, size⟩) (st ++ [.spare size hw]) (w.alloc (.cells arr e)) ∧
    Ext G st w ((G.addF w.heap.size fun o => if o < k then arr[o]? else none).addHist st.length hw ⟨w.heap.size, k, nsp, size⟩) (st ++ [.spare size hw]) (w.alloc (.cells arr e)) := by
  generalize hG1 : (G.addF w.heap.size fun o => if o < k then arr[o]? else none) = G1
  have hle1 : G.le G1 := hG1 ▸ Gh.le_addF ..
  have hh1 : ∀ o f, G1.hist o f = G.hist o f := fun _ _ => by rw [← hG1]; rfl
  have hl1 : ∀ o, G1.loc o = G.loc o := fun _ => by rw [← hG1]; rfl
  have hF1 : ∀ b off, b ≠ w.heap.size → G1.F b off = G.F b off := fun b off hb => by rw [← hG1]; exact Gh.addF_other hb
  have hF2 : ∀ off v, G1.F w.heap.size off = some v → off < k ∧ arr[off]? = some v := by
    intro off v hv
    rw [← hG1] at hv
    simp only [Gh.addF] at hv
    split at hv
    · rename_i u hu; have := h.fr_lt hu; omega
    · rw [if_pos trivial] at hv; split at hv
      · exact ⟨‹_›, hv⟩
      · cases hv
  have hle : G1.le (G1.addHist st.length hw ⟨w.heap.size, k, nsp, size⟩) := Gh.le_addHist (by rw [hh1]; exact (h.dom _ (Nat.le_refl _)).2 _)
  have hhist : ∀ o f, o < st.length → (G1.addHist st.length hw ⟨w.heap.size, k, nsp, size⟩).hist o f = G.hist o f := fun o f ho => by
    simp only [Gh.addHist, show ¬ (o = st.length ∧ f = hw) from fun e => by omega, if_false, hh1]
  have hoo : ∀ o b, Owns (G1.addHist st.length hw ⟨w.heap.size, k, nsp, size⟩) (st ++ [.spare size hw]) o b → (o < st.length ∧ Owns G st o b) ∨ (o = st.length ∧ b = w.heap.size) := by
    intro o b ho
    have := Owns.lt ho
    simp at this
    rcases Nat.lt_or_ge o st.length with h' | h'
    · exact .inl ⟨h', (Owns.snoc (G' := G1.addHist st.length hw ⟨w.heap.size, k, nsp, size⟩) h' (hl1 o) (fun f => hhist o f h')).1 ho⟩
    · obtain rfl : o = st.length := by omega
      refine .inr ⟨rfl, ?_⟩
      unfold Owns at ho
      rw [get_snoc] at ho
      obtain ⟨s, hs, rfl⟩ := ho
      simp [Gh.addHist] at hs
      rw [← hs]
  refine ⟨⟨?_, ?_, ?_, ?_, ?_, ?_, ?_, ?_, fun o y ho hy f => ?_⟩, ⟨hle1.trans hle, rfl, rfl, rfl, by simp, ?_, ?_, ?_, ?_, by simp⟩⟩
  rotate_left 8
  · rcases get_snoc_cases ho with ⟨h', ho⟩ | ⟨_, e⟩
    · rw [hhist o f h']; exact h.kind o y ho hy f
    · exact (hy _ _ e.symm).elim
  rotate_left 4
  · intro b o v hv
    have hv : G1.F b o = some v := hv
    by_cases hb : b = w.heap.size
    · subst hb
      rw [World.cell?_alloc_new]
      exact (hF2 o v hv).2
    · rw [hF1 b o hb] at hv
      rw [cell_old (h.fr_lt hv)]
      exact h.fr b o v hv
  · intro o ho
    simp at ho
    refine ⟨by show G1.loc o = none; rw [hl1]; exact (h.dom o (by omega)).1, fun f => ?_⟩
    simp only [Gh.addHist, show ¬ (o = st.length ∧ f = hw) from fun e => by omega, if_false, hh1]
    exact (h.dom o (by omega)).2 f
  · intro o es ho l' hl'
    have hl' : G1.loc o = some l' := hl'
    rcases get_snoc_cases ho with ⟨h', ho⟩ | ⟨rfl, e⟩
    · rw [hl1] at hl'
      obtain ⟨blk, size, n, e, arr, ty, hb, r⟩ := h.row o es ho l' hl'
      exact ⟨blk, size, n, e, arr, ty, by rw [heap_old (lt_of_heap hb)]; exact hb, r.1, r.2.1, r.2.2.mono (hle1.trans hle)⟩
    · cases e
  · intro o kv ho l' hl'
    have hl' : G1.loc o = some l' := hl'
    rcases get_snoc_cases ho with ⟨h', ho⟩ | ⟨rfl, e⟩
    · rw [hl1] at hl'
      obtain ⟨blk, e, es, c, hb, r⟩ := h.map o kv ho l' hl'
      exact ⟨blk, e, es, c, by rw [heap_old (lt_of_heap hb)]; exact hb, ⟨r.1.mono (hle1.trans hle), r.2⟩⟩
    · cases e
  · intro o s pos ho l' hl'
    have hl' : G1.loc o = some l' := hl'
    rcases get_snoc_cases ho with ⟨h', ho⟩ | ⟨rfl, e⟩
    · rw [hl1] at hl'
      obtain ⟨blk, e, hb⟩ := h.iter o s pos ho l' hl'
      exact ⟨blk, e, by rw [heap_old (lt_of_heap hb)]; exact hb⟩
    · cases e
  · intro o n hw' ho
    rcases get_snoc_cases ho with ⟨h', ho⟩ | ⟨rfl, e⟩
    · obtain ⟨h1, h2⟩ := h.spare o n hw' ho
      refine ⟨fun f hf => by rw [hhist o f h']; exact h1 f hf, fun s hs => ?_⟩
      rw [hhist o _ h'] at hs
      obtain ⟨a, ⟨arr', e, hb, hz'⟩, hf⟩ := h2 s hs
      have hlt := lt_of_heap hb
      exact ⟨a, ⟨arr', e, by rw [heap_old hlt]; exact hb, hz'⟩, fun off ho => by show G1.F s.blk off = none; rw [hF1 _ _ (by omega)]; exact hf off ho⟩
    · cases e
      refine ⟨fun f hf => ?_, fun s hs => ?_⟩
      · simp only [Gh.addHist]
        rw [if_neg (by omega), hh1]
        exact (h.dom _ (Nat.le_refl _)).2 f
      · simp [Gh.addHist] at hs
        subst hs
        refine ⟨rfl, ⟨arr, _, heap_alloc_new w _, hz⟩, fun off ho => ?_⟩
        show G1.F w.heap.size off = none
        cases hf : G1.F w.heap.size off with
        | none => rfl
        | some v => have := (hF2 off v hf).1; simp at ho; omega
  · intro o o' b ho ho'
    rcases hoo o b ho with ⟨h1, h2⟩ | ⟨rfl, rfl⟩ <;> rcases hoo o' _ ho' with ⟨h3, h4⟩ | ⟨rfl, h5⟩
    · exact h.uniq o o' b h2 h4
    · have := h.owns_lt h2; omega
    · have := h.owns_lt h4; omega
    · rfl
  · intro o b ho hn off
    rcases hoo o b ho with ⟨h1, h2⟩ | ⟨rfl, rfl⟩
    · show G1.F b off = none
      rw [hF1 _ _ (by have := h.owns_lt h2; omega)]
      exact h.ownF o b h2 (fun ⟨n, hw, e⟩ => hn ⟨n, hw, by rw [get_snoc_lt h1]; exact e⟩) off
    · exact (hn ⟨size, hw, get_snoc⟩).elim
  · intro b hb _; exact heap_old hb
  · intro o b ho hb
    rcases hoo o b ho with ⟨h1, h2⟩ | ⟨rfl, rfl⟩
    · exact ⟨o, h2⟩
    · omega
  · intro b off v hv hb _
    have hv : G1.F b off = some v := hv
    rwa [hF1 _ _ (by omega)] at hv
  · intro o ho h1 h2
    exact ⟨get_snoc_lt ho, by show G1.loc o = none; rw [hl1]; exact h1, fun f => by rw [hhist o f ho]; exact h2 f⟩
theorem WR.newF {G : Gh} {st : List LObj} {w : World} (h : WR G st w) (arr : Array Value) (e : TypeId) (fz : Nat × Nat) :
    WR (G.addF w.heap.size fun o => arr[o]?) st (w.alloc (.cells arr e fz)) ∧
    Ext G st w (G.addF w.heap.size fun o => arr[o]?) st (w.alloc (.cells arr e fz)) := by
  generalize hG1 : (G.addF w.heap.size fun o => arr[o]?) = G1
  have hle : G.le G1 := hG1 ▸ Gh.le_addF ..
  have hh1 : ∀ o f, G1.hist o f = G.hist o f := fun _ _ => by rw [← hG1]; rfl
  have hl1 : ∀ o, G1.loc o = G.loc o := fun _ => by rw [← hG1]; rfl
  have hF1 : ∀ b off, b ≠ w.heap.size → G1.F b off = G.F b off := fun b off hb => by rw [← hG1]; exact Gh.addF_other hb
  have hF2 : ∀ off v, G1.F w.heap.size off = some v → arr[off]? = some v := by
    intro off v hv
    rw [← hG1] at hv
    simp only [Gh.addF] at hv
    split at hv
    · rename_i u hu; have := h.fr_lt hu; omega
    · rw [if_pos trivial] at hv; exact hv
  have hoo : ∀ o b, Owns G1 st o b ↔ Owns G st o b := by intro o b; unfold Owns; simp only [hh1, hl1]
  refine ⟨⟨?_, ?_, ?_, ?_, ?_, ?_, ?_, ?_, fun o y ho hy f => by rw [hh1]; exact h.kind o y ho hy f⟩, ⟨hle, rfl, rfl, rfl, by simp, ?_, ?_, ?_, ?_, Nat.le_refl _⟩⟩
  · intro b o v hv
    by_cases hb : b = w.heap.size
    · subst hb
      have : (w.alloc (.cells arr e fz)).cell? ⟨w.heap.size, o, none⟩ = arr[o]? := by unfold World.alloc World.cell?; simp
      rw [this]
      exact hF2 o v hv
    · rw [hF1 b o hb] at hv
      rw [cell_old (h.fr_lt hv)]
      exact h.fr b o v hv
  · intro o ho
    exact ⟨by rw [hl1]; exact (h.dom o ho).1, fun f => by rw [hh1]; exact (h.dom o ho).2 f⟩
  · intro o es ho l' hl'
    rw [hl1] at hl'
    obtain ⟨blk, size, n, e, arr, ty, hb, r⟩ := h.row o es ho l' hl'
    exact ⟨blk, size, n, e, arr, ty, by rw [heap_old (lt_of_heap hb)]; exact hb, r.1, r.2.1, r.2.2.mono hle⟩
  · intro o kv ho l' hl'
    rw [hl1] at hl'
    obtain ⟨blk, e, es, c, hb, r⟩ := h.map o kv ho l' hl'
    exact ⟨blk, e, es, c, by rw [heap_old (lt_of_heap hb)]; exact hb, ⟨r.1.mono hle, r.2⟩⟩
  · intro o s pos ho l' hl'
    rw [hl1] at hl'
    obtain ⟨blk, e, hb⟩ := h.iter o s pos ho l' hl'
    exact ⟨blk, e, by rw [heap_old (lt_of_heap hb)]; exact hb⟩
  · intro o n hw' ho
    obtain ⟨h1, h2⟩ := h.spare o n hw' ho
    refine ⟨fun f hf => by rw [hh1]; exact h1 f hf, fun s hs => ?_⟩
    rw [hh1] at hs
    obtain ⟨a, ⟨arr', e, hb, hz'⟩, hf⟩ := h2 s hs
    have hlt := lt_of_heap hb
    exact ⟨a, ⟨arr', e, by rw [heap_old hlt]; exact hb, hz'⟩, fun off ho => by rw [hF1 _ _ (by omega)]; exact hf off ho⟩
  · intro o o' b ho ho'
    exact h.uniq o o' b ((hoo o b).1 ho) ((hoo o' b).1 ho')
  · intro o b ho hn off
    have := (hoo o b).1 ho
    rw [hF1 _ _ (by have := h.owns_lt this; omega)]
    exact h.ownF o b this hn off
  · intro b hb _; exact heap_old hb
  · intro o b ho hb; exact ⟨o, (hoo o b).1 ho⟩
  · intro b off v hv hb _; rwa [hF1 _ _ (by omega)] at hv
  · intro o ho h1 h2
    exact ⟨rfl, by rw [hl1]; exact h1, fun f => by rw [hh1]; exact h2 f⟩
end Go.LS
set_option linter.unusedVariables false
namespace Go.LS
theorem get_set_cases {α : Type} {l : List α} {o i : Nat} {x y : α} (h : (l.set o x)[i]? = some y) : (i ≠ o ∧ l[i]? = some y) ∨ (i = o ∧ o < l.length ∧ x = y) := by
  by_cases e : i = o
  · subst e
    by_cases hl : i < l.length
    · rw [List.getElem?_set_self hl] at h; exact .inr ⟨rfl, hl, Option.some.inj h⟩
    · rw [List.getElem?_eq_none (by simp; omega)] at h; cases h
  · rw [List.getElem?_set_ne (Ne.symm e)] at h; exact .inl ⟨e, h⟩
structure SameBut (b : Nat) (w w' : World) : Prop where
  size : w'.heap.size = w.heap.size
  other : ∀ c, c ≠ b → w'.heap[c]? = w.heap[c]?
  os : w'.os = w.os
  tape : w'.tape = w.tape
  output : w'.output = w.output
def Fits (G : Gh) (x x' : LObj) (l : Loc) (b : Nat) (ob : Obj) : Prop :=
  (∃ es es' size n arr e, x = .row es ∧ x' = .row es' ∧ l = .row b size n ∧ ob = .cells arr e (0, 0) ∧ arr.size = n * size ∧ es'.length ≤ n ∧ rowOk G arr es' size) ∨
  (∃ kv kv' es clock, x = .map kv ∧ x' = .map kv' ∧ l = .map b ∧ ob = .map es clock ∧ mapOk G es kv' ∧ Stamps es clock) ∨
  (∃ s p s' p', x = .siter s p ∧ x' = .siter s' p' ∧ l = .iter b ∧ ob = .stringIter ⟨s'.toArray⟩ p')
theorem WR.setObj {G : Gh} {st : List LObj} {w w' : World} (h : WR G st w) {o b : Nat} {x x' : LObj} {l : Loc} {ob : Obj} (hs : st[o]? = some x) (hl : G.loc o = some l)
    (hx : Fits G x x' l b ob) (hw : SameBut b w w') (hb : w'.heap[b]? = some ob) : WR G (st.set o x') w' ∧ Ext G st w G (st.set o x') w' := by
  have holt : o < st.length := (List.getElem?_eq_some_iff.1 hs).1
  have hself : (st.set o x')[o]? = some x' := List.getElem?_set_self holt
  have hns : ¬ isSpare st o := by
    rintro ⟨n, k, e⟩
    rw [hs] at e
    rcases hx with ⟨_, _, _, _, _, _, rfl, _⟩ | ⟨_, _, _, _, rfl, _⟩ | ⟨_, _, _, _, rfl, _⟩ <;> cases e
  have how : Owns G st o b := by
    unfold Owns; rw [hs]
    rcases hx with ⟨_, _, size, n, _, _, rfl, _, rfl, _⟩ | ⟨_, _, _, _, rfl, _, rfl, _⟩ | ⟨_, _, _, _, rfl, _, rfl, _⟩
    · exact ⟨size, n, hl⟩
    · exact hl
    · exact hl
  have hoo : ∀ o' c, Owns G (st.set o x') o' c ↔ Owns G st o' c := by
    intro o' c
    by_cases e : o' = o
    · subst e
      unfold Owns
      rw [hself, hs]
      rcases hx with ⟨_, _, _, _, _, _, rfl, rfl, _⟩ | ⟨_, _, _, _, rfl, rfl, _⟩ | ⟨_, _, _, _, rfl, rfl, _⟩ <;> rfl
    · unfold Owns
      rw [List.getElem?_set_ne (Ne.symm e)]
  have hF : ∀ off, G.F b off = none := h.ownF o b how hns
  have hne : ∀ o' c, o' ≠ o → Owns G st o' c → c ≠ b := fun o' c e hc hcb => e (h.uniq o' o c hc (hcb ▸ how))
  refine ⟨⟨?_, ?_, ?_, ?_, ?_, ?_, ?_, ?_, fun o' y ho hy f => ?_⟩, ⟨.refl G, hw.os, hw.tape, hw.output, by rw [hw.size]; exact Nat.le_refl _, ?_, ?_, ?_, ?_, by simp⟩⟩
  rotate_left 8
  · rcases get_set_cases ho with ⟨_, ho⟩ | ⟨rfl, _, _⟩
    · exact h.kind o' y ho hy f
    · exact h.kind _ x hs (fun n k e => hns ⟨n, k, by rw [hs, e]⟩) f
  rotate_left 4
  · intro c off v hv
    have hc : c ≠ b := fun e => by subst e; rw [hF off] at hv; cases hv
    have := h.fr c off v hv
    unfold World.cell? at this ⊢
    rw [show w'.heap[c]? = w.heap[c]? from hw.other c hc]
    exact this
  · intro o' ho'; simp at ho'; exact h.dom o' ho'
  · intro o' es ho' l' hl'
    rcases get_set_cases ho' with ⟨e, ho'⟩ | ⟨rfl, _, e⟩
    · obtain ⟨blk, size, n, e', arr, ty, hbb, r⟩ := h.row o' es ho' l' hl'
      have hc := hne o' blk e (by unfold Owns; rw [ho']; exact ⟨size, n, e' ▸ hl'⟩)
      exact ⟨blk, size, n, e', arr, ty, by rw [hw.other _ hc]; exact hbb, r⟩
    · rw [hl] at hl'; cases hl'
      rcases hx with ⟨es0, es', size, n, arr, ty, _, rfl, rfl, rfl, h1, h2, h3⟩ | ⟨_, _, _, _, _, rfl, _⟩ | ⟨_, _, _, _, _, rfl, _⟩
      · cases e; exact ⟨b, size, n, rfl, arr, ty, hb, h1, h2, h3⟩
      · cases e
      · cases e
  · intro o' kv ho' l' hl'
    rcases get_set_cases ho' with ⟨e, ho'⟩ | ⟨rfl, _, e⟩
    · obtain ⟨blk, e', es, c, hbb, r⟩ := h.map o' kv ho' l' hl'
      have hc := hne o' blk e (by unfold Owns; rw [ho']; exact e' ▸ hl')
      exact ⟨blk, e', es, c, by rw [hw.other _ hc]; exact hbb, r⟩
    · rw [hl] at hl'; cases hl'
      rcases hx with ⟨_, _, _, _, _, _, _, rfl, _⟩ | ⟨kv0, kv', es, c, _, rfl, rfl, rfl, h3⟩ | ⟨_, _, _, _, _, rfl, _⟩
      · cases e
      · cases e; exact ⟨b, rfl, es, c, hb, h3⟩
      · cases e
  · intro o' s p ho' l' hl'
    rcases get_set_cases ho' with ⟨e, ho'⟩ | ⟨rfl, _, e⟩
    · obtain ⟨blk, e', hbb⟩ := h.iter o' s p ho' l' hl'
      have hc := hne o' blk e (by unfold Owns; rw [ho']; exact e' ▸ hl')
      exact ⟨blk, e', by rw [hw.other _ hc]; exact hbb⟩
    · rw [hl] at hl'; cases hl'
      rcases hx with ⟨_, _, _, _, _, _, _, rfl, _⟩ | ⟨_, _, _, _, _, rfl, _⟩ | ⟨s0, p0, s', p', _, rfl, rfl, rfl⟩
      · cases e
      · cases e
      · cases e; exact ⟨b, rfl, hb⟩
  · intro o' n k ho'
    rcases get_set_cases ho' with ⟨e, ho'⟩ | ⟨rfl, _, e⟩
    · obtain ⟨h1, h2⟩ := h.spare o' n k ho'
      refine ⟨h1, fun s hs' => ?_⟩
      obtain ⟨a, ⟨arr, ty, hbb, r⟩, hf⟩ := h2 s hs'
      have hc := hne o' s.blk e (by unfold Owns; rw [ho']; exact ⟨s, hs', rfl⟩)
      exact ⟨a, ⟨arr, ty, by rw [hw.other _ hc]; exact hbb, r⟩, hf⟩
    · exfalso; subst e
      rcases hx with ⟨_, _, _, _, _, _, _, e, _⟩ | ⟨_, _, _, _, _, e, _⟩ | ⟨_, _, _, _, _, e, _⟩ <;> cases e
  · intro o1 o2 c h1 h2; exact h.uniq o1 o2 c ((hoo _ _).1 h1) ((hoo _ _).1 h2)
  · intro o' c h1 h2 off
    refine h.ownF o' c ((hoo _ _).1 h1) (fun ⟨n, k, e⟩ => ?_) off
    by_cases e' : o' = o
    · subst e'; exact hns ⟨n, k, e⟩
    · exact h2 ⟨n, k, by rw [List.getElem?_set_ne (Ne.symm e')]; exact e⟩
  · intro c hc ho'
    exact hw.other c fun e => ho' o (e ▸ how)
  · intro o' c h1 _; exact ⟨o', (hoo _ _).1 h1⟩
  · intro _ _ _ hv _ _; exact hv
  · intro o' ho' h1 h2
    refine ⟨?_, h1, h2⟩
    rw [List.getElem?_set_ne]
    intro e; subst e; rw [hl] at h1; cases h1
theorem WR.grow {G : Gh} {st : List LObj} {w w' : World} (h : WR G st w) {t size hw k : Nat} (hs : st[t]? = some (.spare size hw)) (s s' : Sp) (hh : G.hist t hw = some s) (hk : 0 < k)
    (arr' : Array Value) (e : TypeId) (f : Nat → Option Value)
    (hos : w'.os = w.os) (htp : w'.tape = w.tape) (hout : w'.output = w.output)
    (hsz : w.heap.size ≤ w'.heap.size) (hother : ∀ c, c < w.heap.size → c ≠ s.blk → w'.heap[c]? = w.heap[c]?)
    (hb : w'.heap[s'.blk]? = some (.cells arr' e (0, 0))) (hz : s'.size = size) (hzz : arr'.size = s'.endo + s'.nsp * size)
    (hf : ∀ off v, f off = some v → off < s'.endo ∧ arr'[off]? = some v)
    (hcase : (s'.blk = s.blk ∧ s.endo ≤ s'.endo ∧ ∀ off v, off < s.endo → w.cell? ⟨s.blk, off, none⟩ = some v → arr'[off]? = some v) ∨
      (w.heap.size ≤ s'.blk ∧ w'.heap[s.blk]? = w.heap[s.blk]?)) :
    WR ((G.addF s'.blk f).addHist t (hw + k) s') (st.set t (.spare size (hw + k))) w' ∧
    Ext G st w ((G.addF s'.blk f).addHist t (hw + k) s') (st.set t (.spare size (hw + k))) w' := by
  have htlt : t < st.length := (List.getElem?_eq_some_iff.1 hs).1
  obtain ⟨hgt, hsp⟩ := h.spare t size hw hs
  obtain ⟨hss, ⟨arr, ty, hbb, hbz⟩, hFs⟩ := hsp s hh
  have hblt := lt_of_heap hbb
  have how : Owns G st t s.blk := by unfold Owns; rw [hs]; exact ⟨s, hh, rfl⟩
  generalize hG1 : G.addF s'.blk f = G1
  have hle1 : G.le G1 := hG1 ▸ Gh.le_addF ..
  have hh1 : ∀ o f, G1.hist o f = G.hist o f := fun _ _ => by rw [← hG1]; rfl
  have hl1 : ∀ o, G1.loc o = G.loc o := fun _ => by rw [← hG1]; rfl
  have hF1 : ∀ b off, b ≠ s'.blk → G1.F b off = G.F b off := fun b off hb => by rw [← hG1]; exact Gh.addF_other hb
  have hF2 : ∀ off v, G1.F s'.blk off = some v → G.F s'.blk off = some v ∨ f off = some v := by
    intro off v hv
    rw [← hG1] at hv
    simp only [Gh.addF] at hv
    split at hv
    · rename_i u hu; exact .inl (hu.trans hv)
    · exact .inr (by simpa using hv)
  have hle : G1.le (G1.addHist t (hw + k) s') := Gh.le_addHist (by rw [hh1]; exact hgt _ (by omega))
  have hhist : ∀ o g, o ≠ t → (G1.addHist t (hw + k) s').hist o g = G.hist o g := fun o g ho => by
    simp only [Gh.addHist]; rw [if_neg (fun e => ho e.1), hh1]
  have hnew : (G1.addHist t (hw + k) s').hist t (hw + k) = some s' := by simp [Gh.addHist]
  have hself : (st.set t (.spare size (hw + k)))[t]? = some (.spare size (hw + k)) := List.getElem?_set_self htlt
  have hother' : ∀ o c, o ≠ t → Owns G st o c → c < w.heap.size ∧ c ≠ s.blk ∧ c ≠ s'.blk := by
    intro o c ho hc
    have h1 := h.owns_lt hc
    have h2 : c ≠ s.blk := fun e => ho (h.uniq o t c hc (e ▸ how))
    refine ⟨h1, h2, ?_⟩
    rcases hcase with ⟨e, _⟩ | ⟨e, _⟩
    · rw [e]; exact h2
    · omega
  have hoo : ∀ o c, Owns (G1.addHist t (hw + k) s') (st.set t (.spare size (hw + k))) o c → (o ≠ t ∧ Owns G st o c) ∨ (o = t ∧ c = s'.blk) := by
    intro o c ho
    by_cases e : o = t
    · subst e
      refine .inr ⟨rfl, ?_⟩
      unfold Owns at ho
      rw [hself] at ho
      obtain ⟨q, hq, rfl⟩ := ho
      rw [hnew] at hq; cases hq; rfl
    · refine .inl ⟨e, ?_⟩
      unfold Owns at ho ⊢
      rw [List.getElem?_set_ne (Ne.symm e)] at ho
      have e1 : (G1.addHist t (hw + k) s').loc o = G.loc o := hl1 o
      rw [e1] at ho
      simp only [hhist o _ e] at ho
      exact ho
  have hFend : ∀ off, s'.endo ≤ off → G1.F s'.blk off = none := by
    intro off hoff
    cases hv : G1.F s'.blk off with
    | none => rfl
    | some v =>
      rcases hF2 off v hv with hv | hv
      · rcases hcase with ⟨e, h1, _⟩ | ⟨e, _⟩
        · rw [e] at hv; rw [hFs off (by omega)] at hv; cases hv
        · have := h.fr_lt hv; omega
      · have := (hf off v hv).1; omega
  refine ⟨⟨?_, ?_, ?_, ?_, ?_, ?_, ?_, ?_, fun o y ho hy g => ?_⟩, ⟨hle1.trans hle, hos, htp, hout, hsz, ?_, ?_, ?_, ?_, by simp⟩⟩
  rotate_left 8
  · rcases get_set_cases ho with ⟨e, ho⟩ | ⟨rfl, _, e⟩
    · rw [hhist o g e]; exact h.kind o y ho hy g
    · exact (hy _ _ e.symm).elim
  rotate_left 4
  · intro b off v hv
    have hv : G1.F b off = some v := hv
    by_cases hbs : b = s'.blk
    · subst hbs
      rw [cell_of_row w' s'.blk off arr' e (0, 0) hb]
      rcases hF2 off v hv with hv | hv
      · rcases hcase with ⟨e, h1, h2⟩ | ⟨e, _⟩
        · rw [e] at hv
          refine h2 off v ?_ (h.fr _ _ _ hv)
          rcases Nat.lt_or_ge off s.endo with h' | h'
          · exact h'
          · rw [hFs off h'] at hv; cases hv
        · have := h.fr_lt hv; omega
      · exact (hf off v hv).2
    · rw [hF1 b off hbs] at hv
      have hlt := h.fr_lt hv
      have hc := h.fr b off v hv
      unfold World.cell? at hc ⊢
      by_cases hbb' : b = s.blk
      · rcases hcase with ⟨e, _⟩ | ⟨_, e⟩
        · omega
        · rw [show w'.heap[b]? = w.heap[b]? by rw [hbb']; exact e]; exact hc
      · rw [show w'.heap[b]? = w.heap[b]? from hother b hlt hbb']; exact hc
  · intro o ho
    simp at ho
    exact ⟨by show G1.loc o = none; rw [hl1]; exact (h.dom o ho).1, fun g => by rw [hhist o g (by omega)]; exact (h.dom o ho).2 g⟩
  · intro o es ho l' hl'
    have hl' : G1.loc o = some l' := hl'
    rw [hl1] at hl'
    rcases get_set_cases ho with ⟨e, ho⟩ | ⟨rfl, _, e⟩
    · obtain ⟨blk, sz, n, e', arr2, ty2, hb2, r⟩ := h.row o es ho l' hl'
      have hc := hother' o blk e (by unfold Owns; rw [ho]; exact ⟨sz, n, e' ▸ hl'⟩)
      exact ⟨blk, sz, n, e', arr2, ty2, by rw [hother _ hc.1 hc.2.1]; exact hb2, r.1, r.2.1, r.2.2.mono (hle1.trans hle)⟩
    · cases e
  · intro o kv ho l' hl'
    have hl' : G1.loc o = some l' := hl'
    rw [hl1] at hl'
    rcases get_set_cases ho with ⟨e, ho⟩ | ⟨rfl, _, e⟩
    · obtain ⟨blk, e', es, c, hb2, r⟩ := h.map o kv ho l' hl'
      have hc := hother' o blk e (by unfold Owns; rw [ho]; exact e' ▸ hl')
      exact ⟨blk, e', es, c, by rw [hother _ hc.1 hc.2.1]; exact hb2, ⟨r.1.mono (hle1.trans hle), r.2⟩⟩
    · cases e
  · intro o q p ho l' hl'
    have hl' : G1.loc o = some l' := hl'
    rw [hl1] at hl'
    rcases get_set_cases ho with ⟨e, ho⟩ | ⟨rfl, _, e⟩
    · obtain ⟨blk, e', hb2⟩ := h.iter o q p ho l' hl'
      have hc := hother' o blk e (by unfold Owns; rw [ho]; exact e' ▸ hl')
      exact ⟨blk, e', by rw [hother _ hc.1 hc.2.1]; exact hb2⟩
    · cases e
  · intro o n g ho
    rcases get_set_cases ho with ⟨e, ho⟩ | ⟨rfl, _, e⟩
    · obtain ⟨h1, h2⟩ := h.spare o n g ho
      refine ⟨fun f hf => by rw [hhist o f e]; exact h1 f hf, fun q hq => ?_⟩
      rw [hhist o _ e] at hq
      obtain ⟨a, ⟨arr2, ty2, hb2, r⟩, hf2⟩ := h2 q hq
      have hc := hother' o q.blk e (by unfold Owns; rw [ho]; exact ⟨q, hq, rfl⟩)
      exact ⟨a, ⟨arr2, ty2, by rw [hother _ hc.1 hc.2.1]; exact hb2, r⟩, fun off hoff => by show G1.F q.blk off = none; rw [hF1 _ _ hc.2.2]; exact hf2 off hoff⟩
    · cases e
      refine ⟨fun g hg => ?_, fun q hq => ?_⟩
      · simp only [Gh.addHist]
        rw [if_neg (fun e => by omega), hh1]
        exact hgt g (by omega)
      · rw [hnew] at hq; cases hq
        exact ⟨hz, ⟨arr', e, hb, hzz⟩, hFend⟩
  · intro o1 o2 c h1 h2
    rcases hoo o1 c h1 with ⟨a1, a2⟩ | ⟨rfl, rfl⟩ <;> rcases hoo o2 _ h2 with ⟨b1, b2⟩ | ⟨rfl, b2⟩
    · exact h.uniq o1 o2 c a2 b2
    · exact ((hother' o1 c a1 a2).2.2 b2).elim
    · exact ((hother' o2 _ b1 b2).2.2 rfl).elim
    · rfl
  · intro o c h1 h2 off
    rcases hoo o c h1 with ⟨a1, a2⟩ | ⟨rfl, rfl⟩
    · show G1.F c off = none
      rw [hF1 _ _ (hother' o c a1 a2).2.2]
      exact h.ownF o c a2 (fun ⟨n, g, e⟩ => h2 ⟨n, g, by rw [List.getElem?_set_ne (Ne.symm a1)]; exact e⟩) off
    · exact (h2 ⟨size, hw + k, hself⟩).elim
  · intro c hc ho
    exact hother c hc fun e => ho t (e ▸ how)
  · intro o c h1 hc
    rcases hoo o c h1 with ⟨a1, a2⟩ | ⟨rfl, rfl⟩
    · exact ⟨o, a2⟩
    · rcases hcase with ⟨e, _⟩ | ⟨e, _⟩
      · exact ⟨o, e ▸ how⟩
      · omega
  · intro c off v hv hc ho
    have hv : G1.F c off = some v := hv
    have hne : c ≠ s'.blk := by
      intro e
      rcases hcase with ⟨e', _⟩ | ⟨e', _⟩
      · exact ho t (by rw [e, e']; exact how)
      · omega
    rwa [hF1 _ _ hne] at hv
  · intro o ho h1 h2
    have hne : o ≠ t := fun e => by subst e; rw [h2 hw] at hh; cases hh
    exact ⟨List.getElem?_set_ne (Ne.symm hne), by show G1.loc o = none; rw [hl1]; exact h1, fun g => by rw [hhist o g hne]; exact h2 g⟩
theorem WR.retire {G : Gh} {st : List LObj} {w w' : World} (h : WR G st w) {o b size n : Nat} {es : List (List LV)} {arr : Array Value} {e : TypeId} {fz fz' : Nat × Nat} (hs : st[o]? = some (.row es)) (hl : G.loc o = some (.row b size n))
    (ha : w.heap[b]? = some (.cells arr e fz)) (hw : SameBut b w w') (hb : w'.heap[b]? = some (.cells arr e fz')) :
    WR (G.addF b fun off => arr[off]?) (st.set o .dead) w' ∧ Ext G st w (G.addF b fun off => arr[off]?) (st.set o .dead) w' := by
  have holt : o < st.length := (List.getElem?_eq_some_iff.1 hs).1
  have hself : (st.set o LObj.dead)[o]? = some .dead := List.getElem?_set_self holt
  have hns : ¬ isSpare st o := by rintro ⟨n, k, e⟩; rw [hs] at e; cases e
  have how : Owns G st o b := by unfold Owns; rw [hs]; exact ⟨size, n, hl⟩
  have hle : G.le (G.addF b fun off => arr[off]?) := Gh.le_addF ..
  have hoo : ∀ o' c, Owns (G.addF b fun off => arr[off]?) (st.set o .dead) o' c → o' ≠ o ∧ Owns G st o' c := by
    intro o' c ho
    by_cases e' : o' = o
    · subst e'; unfold Owns at ho; rw [hself] at ho; exact ho.elim
    · refine ⟨e', ?_⟩
      unfold Owns at ho ⊢
      rw [List.getElem?_set_ne (Ne.symm e')] at ho
      exact ho
  have hne : ∀ o' c, o' ≠ o → Owns G st o' c → c ≠ b := fun o' c e hc hcb => e (h.uniq o' o c hc (hcb ▸ how))
  have hcell : ∀ c off v, w.cell? ⟨c, off, none⟩ = some v → w'.cell? ⟨c, off, none⟩ = some v := by
    intro c off v hv
    by_cases hc : c = b
    · subst hc
      unfold World.cell? at hv ⊢
      simp only [ha] at hv
      simp only [hb]
      exact hv
    · unfold World.cell? at hv ⊢
      rw [show w'.heap[c]? = w.heap[c]? from hw.other c hc]
      exact hv
  refine ⟨⟨?_, ?_, ?_, ?_, ?_, ?_, ?_, ?_, fun o' y ho hy f => ?_⟩, ⟨hle, hw.os, hw.tape, hw.output, by rw [hw.size]; exact Nat.le_refl _, ?_, ?_, ?_, ?_, by simp⟩⟩
  rotate_left 8
  · rcases get_set_cases ho with ⟨_, ho⟩ | ⟨rfl, _, _⟩
    · exact h.kind o' y ho hy f
    · exact h.kind _ _ hs (fun n k e => by cases e) f
  rotate_left 4
  · intro c off v hv
    simp only [Gh.addF] at hv
    split at hv
    · rename_i v' hv'
      cases hv
      exact hcell _ _ _ (h.fr c off _ hv')
    · split at hv
      · rename_i hcb
        subst hcb
        unfold World.cell?
        simp only [hb]
        exact hv
      · cases hv
  · intro o' ho'; simp at ho'; exact h.dom o' ho'
  · intro o' es' ho' l' hl'
    rcases get_set_cases ho' with ⟨e1, ho'⟩ | ⟨rfl, _, e1⟩
    · obtain ⟨blk, sz, m, e', arr', ty, hbb, r1, r2, r3⟩ := h.row o' es' ho' l' hl'
      have hc := hne o' blk e1 (by unfold Owns; rw [ho']; exact ⟨sz, m, e' ▸ hl'⟩)
      exact ⟨blk, sz, m, e', arr', ty, by rw [hw.other _ hc]; exact hbb, r1, r2, r3.mono hle⟩
    · cases e1
  · intro o' kv ho' l' hl'
    rcases get_set_cases ho' with ⟨e1, ho'⟩ | ⟨rfl, _, e1⟩
    · obtain ⟨blk, e', es', c, hbb, r⟩ := h.map o' kv ho' l' hl'
      have hc := hne o' blk e1 (by unfold Owns; rw [ho']; exact e' ▸ hl')
      exact ⟨blk, e', es', c, by rw [hw.other _ hc]; exact hbb, ⟨r.1.mono hle, r.2⟩⟩
    · cases e1
  · intro o' s p ho' l' hl'
    rcases get_set_cases ho' with ⟨e1, ho'⟩ | ⟨rfl, _, e1⟩
    · obtain ⟨blk, e', hbb⟩ := h.iter o' s p ho' l' hl'
      have hc := hne o' blk e1 (by unfold Owns; rw [ho']; exact e' ▸ hl')
      exact ⟨blk, e', by rw [hw.other _ hc]; exact hbb⟩
    · cases e1
  · intro o' n' k ho'
    rcases get_set_cases ho' with ⟨e1, ho'⟩ | ⟨rfl, _, e1⟩
    · obtain ⟨h1, h2⟩ := h.spare o' n' k ho'
      refine ⟨h1, fun s hs' => ?_⟩
      obtain ⟨a, ⟨arr', ty, hbb, r⟩, hf⟩ := h2 s hs'
      have hc := hne o' s.blk e1 (by unfold Owns; rw [ho']; exact ⟨s, hs', rfl⟩)
      exact ⟨a, ⟨arr', ty, by rw [hw.other _ hc]; exact hbb, r⟩, fun off ho => by rw [Gh.addF_other hc]; exact hf off ho⟩
    · cases e1
  · intro o1 o2 c h1 h2
    exact h.uniq o1 o2 c (hoo _ _ h1).2 (hoo _ _ h2).2
  · intro o' c h1 h2 off
    obtain ⟨e1, h1'⟩ := hoo _ _ h1
    rw [Gh.addF_other (hne o' c e1 h1')]
    refine h.ownF o' c h1' (fun ⟨n, k, e⟩ => h2 ⟨n, k, by rw [List.getElem?_set_ne (Ne.symm e1)]; exact e⟩) off
  · intro c hc ho'
    exact hw.other c fun e => ho' o (e ▸ how)
  · intro o' c h1 _; exact ⟨o', (hoo _ _ h1).2⟩
  · intro c off v hv hc ho'
    have hcb : c ≠ b := fun e => ho' o (e ▸ how)
    rwa [Gh.addF_other hcb] at hv
  · intro o' ho' h1 h2
    refine ⟨?_, h1, h2⟩
    rw [List.getElem?_set_ne]
    intro e; subst e; rw [hl] at h1; cases h1
end Go.LS
